/- What LinesNobody needs, part 4. -/
import Derived.Below
import Derived.WalkKit
import Derived.OwnWalk
import Derived.Deep.LoopGhost
import Derived.RangeFuncIn
import Derived.RangeFuncLeaves
import Derived.TacticsIn
import Derived.OrdersIn
import Derived.LoopIn
import Derived.LoopNIn
import Derived.Laws.Entries
import Derived.Laws.Slices
import Derived.Laws.Cells
import Derived.Deep.AppendSrc
import Derived.Deep.MidRow
import Derived.Laws.AppendOwn
import Derived.Laws.MakeOwn
import Derived.Laws.IdiomCopy
import Derived.Lib.ConvBytes
import Derived.Lib.SlBytesConst
import Derived.Laws.BytesArg
import Derived.Deep.Upon
import Derived.Laws.StructEq
import Derived.Laws.Small
import Derived.SizedLaws
import Derived.ChangeSlices
import Derived.Lib.SmallJoins
import Derived.MakeChecks
import Derived.ChangeBears2
import Derived.Laws.CopyRow
import Derived.RangeFuncRecord
import Derived.Laws.Externs
import Derived.Lib.Bytealg
import Derived.Lib.IndexLaws
import Derived.DefersIn
import Derived.Lib.SliceRun
import Derived.OpenShut
import Derived.WideShapes
import Derived.Maps.RangeRun
import Derived.Sort.Row
import Derived.Lib.BytesEntry
import Derived.Lib.SlFresh
import Derived.Test.YtolpkeajokjbjaaDoorProg
import Derived.Test.YtolpkeajokjbjaaDoorRows
import Derived.LaidMore
import Derived.LaidHandle
import Derived.ChangeSame
import Derived.Test.YtolpkeajokjbjaaDoorBLinesNobody3
set_option linter.unusedVariables false
set_option linter.unusedSimpArgs false
namespace Go.Proofs.YtolpkeajokjbjaaDoor
open Go.RowKit Go.L Go.Lib
attribute [local irreducible] LL LW LO LP LA
abbrev gW (b : Nat) (W : List (Vx × Int)) : Atom := .map b (mp vxV (encM iE W))
theorem gW_set (b : Nat) (W : List (Vx × Int)) (k : Vx) (n : Int) : Atom.map b (mp vxV (setM (encM iE W) k (i64 n))) = gW b (setA W k n) := congrArg (fun z => Atom.map b (mp vxV z)) (set_enc iE W k n)
theorem Is.rawvx (a : Vx) : Is (.raw (vxV a)) (.agg (vxL a)) := by
  have h : vxL a = raws (vxs1 a) := by
    unfold raws vxs1
    rw [List.map_append, List.map_map]; rfl
  rw [h]
  refine Is.raw_agg fun v hv => ?_
  rcases List.mem_append.1 hv with e | e
  · obtain ⟨x, _, rfl⟩ := List.mem_map.1 e; rfl
  · rw [List.mem_singleton.1 e]; rfl
theorem sliced0A (A : Option Nat) (off n c : Nat) : sliced (A.map fun b => (⟨b, off, none⟩ : Addr)) 0 n c 33 = .slice (A.map fun b => ⟨b, off, none⟩) n c := by
  cases A with
  | some b => exact sliced0 b off n c
  | none =>
    unfold sliced
    by_cases h : c = 0
    · rw [if_pos h]; simp
    · rw [if_neg h]; simp
theorem OwnS.cut0 {size : Nat} {es : List (List LV)} {A : Option Nat} {off n c : Nat} {xs : List LV} (h : OwnS size es A off n c xs) : OwnS size [] A off 0 c xs :=
  ⟨rfl, Nat.zero_le _, h.len, by simp, by simp, h.nil⟩
theorem flat_at {size : Nat} : ∀ {es : List (List LV)} {i : Nat} {e : List LV}, (∀ e ∈ es, e.length = size) → es[i]? = some e → (es.flatten.drop (i * size)).take size = e
  | [], i, e, _, h => by simp at h
  | a :: es, 0, e, hs, h => by
    obtain rfl := Option.some.inj (show some a = some e from h)
    rw [Nat.zero_mul, List.drop_zero, List.flatten_cons, List.take_left' (hs a (by simp))]
  | a :: es, i + 1, e, hs, h => by
    have ha := hs a (by simp)
    rw [List.flatten_cons, Nat.succ_mul, Nat.add_comm, ← List.drop_drop, List.drop_left' ha]
    exact flat_at (fun e he => hs e (List.mem_cons_of_mem _ he)) (by simpa using h)
theorem own_at {size : Nat} {es : List (List LV)} {A : Option Nat} {off n c : Nat} {xs : List LV} (h : OwnS size es A off n c xs) {i : Nat} {e : List LV} (hi : es[i]? = some e) : (xs.drop (off + i * size)).take size = e := by
  have hil := (List.getElem?_eq_some_iff.1 hi).1
  have hf := flat_at h.sz hi
  rw [← h.cells, List.drop_take, List.take_take, List.drop_drop] at hf
  have hle : i * size + size ≤ n * size := by
    rw [← Nat.succ_mul]
    exact Nat.mul_le_mul_right _ (by rw [← h.cnt]; exact hil)
  rw [Nat.min_eq_left (by omega)] at hf
  exact hf
theorem own_some {size : Nat} {es : List (List LV)} {A : Option Nat} {off n c : Nat} {xs : List LV} (h : OwnS size es A off n c xs) (hn : 0 < n) : ∃ b, A = some b := by
  cases A with
  | none => have := h.nil rfl; have := h.le; omega
  | some b => exact ⟨b, rfl⟩
theorem ownA_drop : ∀ (A : Option Nat) (te : TypeId) (xs : List LV) (R : List Atom), HSub (ownA A te xs ++ R) R
  | none, _, _, R => HSub.refl _
  | some _, _, _, R => HSub.drop (HSub.refl _)
theorem run_len {r : Rg} (ho : Ok r) {out : List Vx} (hr : Run (Ee r) (Ss r) out) : out.length ≤ (idsG r.L).length := nodup_len hr.nodup hr.mem
set_option maxHeartbeats 8000000 in
set_option maxRecDepth 100000 in
theorem order_calls (g ma mb : Nat) (n : Int) (m : At) (q : Ps) (r : Rg) (hrel : Rel m q n r) (ho : Ok r) : LCalls Tryd.prog 39 [pt g] [gC g ma mb n, gA ma m, kb] (fun x H' => ∃ out, x = Vxs out .unk ∧ H' = [gC g ma mb n, gA ma m, kb] ∧ OrdR r out) := by
  have hkn : (m.map (·.1)).Nodup := hrel.knd ho
  have hlen := ho.len
  have hsz := hrel.sz ho
  have hbl := vxL_len botV
  have hpm : ∀ (i : Nat) (p : Vx × Ln), m[i]? = some p → lookA m p.1 = some p.2 := fun i p h => mem_look hkn (List.mem_of_getElem? h)
  refine LCalls.of Tryd.func39 rfl Tryd.ntmps39 Tryd.results39 rfl (fun Rf => ?_)
  refine LW.seq ?_
  refine LW.region ?_
  refine X.u (LU.assign (Is.nil 33)) rfl ?_
  refine LL.nil (after_code ?_)
  refine LW.scope (fun i s h => by exact no_goto i s h) ?_
  refine LW.seq ?_
  refine LW.region ?_
  refine X.u (LU.assign (Is.nil 33)) rfl ?_
  refine X.u (LU.assignR Is.rfl') rfl ?_
  refine X.u (LU.assignR Is.rfl') rfl ?_
  refine LL.nil (after_code ?_)
  refine LW.seq ?_
  refine LW.region ?_
  refine X.act (LO.makeMap (st := ⟨_, _, _⟩) rfl (fun b15 => ?_))
  refine X.u (LU.assignR Is.rfl') rfl ?_
  refine LL.nil (after_code ?_)
  refine LW.seq ?_
  refine LW.seq ?_
  refine LW.region ?_
  refine X.u (LU.moveR Is.rfl') rfl ?_
  refine X.u (LU.nilCheck Is.rfl') rfl ?_
  refine X.u (LU.fieldO Tryd.underlying68 rfl Tryd.sizeOf65 (by decide) Is.rfl') rfl ?_
  refine X.u (LU.loadO 1 rfl ⟨Tryd.sizeOf65, Tryd.isAgg65⟩ Is.rfl' (Part.one rfl)) rfl ?_
  refine X.act (LO.rangeMap (st := ⟨_, _, _⟩) 2 rfl rfl Tryd.underlying65 Is.rfl' (fun b20 => ?_))
  refine LL.nil (after_code ?_)
  refine LW.block ?_
  refine X.loopK (α := List Nat × List (Vx × Int)) (fun ⟨seen, W⟩ => []) [0, 2, 3, 4, 5, 6, 20] (fun ⟨seen, W⟩ => .mapr ma b20 (mp vxV (encM lnE m)) seen :: gW b15 W :: gC g ma mb n :: kb :: Rf) (fun ⟨seen, W⟩ => (∀ i ∈ seen, i < m.length) ∧ ∀ i ∈ seen, ∀ p, m[i]? = some p → lookA W p.1 = some ((p.2.prev.length : Nat) : Int)) (fun ⟨seen, W⟩ => unseen m.length seen) (([], [])) (EnvLe.nil) (by repeat (exact HSub.refl _)) ?_ ?_
  · exact ⟨(fun i hi => by cases hi), (fun i hi => by cases hi)⟩
  · rintro ⟨seen, W⟩ hI
    obtain ⟨hsl, hsb⟩ := hI
    refine LW.seq ?_
    refine LW.region ?_
    refine X.act (LO.nextMap (st := ⟨_, _, _⟩) 0 rfl rfl Is.rfl' (fun i21 kv21 hi21 hn21 => ?_) (fun hall21 => ?_))
    · refine X.u (LU.extract Is.rfl' rfl) rfl ?_
      refine LL.nil (after_code ?_)
      refine LW.seq ?_
      refine X.condT rfl ?_ ?_
      · rfl
      refine LW.skip (after_code ?_)
      refine LW.block ?_
      refine LW.seq ?_
      obtain ⟨p, hp, rfl⟩ := ent_at hi21
      have hil2 := (List.getElem?_eq_some_iff.1 hp).1
      have hmu := unseen_lt hil2 hn21
      have hpl := vxL_len p.1
      have hp32 : p.1.p.1.length = 32 := p.1.p.2
      refine LW.region ?_
      refine X.u (LU.entryMap 0 rfl (by assumption) Is.rfl') rfl ?_
      refine X.u (LU.weak (LU.extract Is.rfl' rfl) (Is.rawvx p.1)) rfl ?_
      refine X.u (LU.extract Is.rfl' rfl) rfl ?_
      refine X.act (X.alloc rfl Tryd.zeroValue35 (by exact Cells.rawagg (by decide)) (fun b7 => ?_))
      refine X.act (X.alloc rfl Tryd.zeroValue73 (by exact Cells.rawagg (by decide)) (fun b8 => ?_))
      refine X.act (X.store 1 rfl Tryd.sizeOf35 Is.rfl' Is.rfl' (by exact Cells.agg) (by assumption) (by exact Nat.le_of_ble_eq_true rfl) ?_)
      refine X.act (X.store 1 rfl Tryd.sizeOf73 Is.rfl' Is.rfl' (by exact Cells.agg) (by (simp; done)) (by exact Nat.le_of_ble_eq_true rfl) ?_)
      refine LL.nil (after_code ?_)
      refine X.wcells (ys := lnL p.2) rfl ?_
      refine X.wghost (H' := .cells b8 73 (lnL p.2) :: .cells b7 35 (putAt (raws z35.cells.toList) 0 (vxL p.1)) :: .mapr ma b20 (mp vxV (encM lnE m)) (seen ++ [i21]) :: gW b15 W :: gC g ma mb n :: kb :: Rf) (by repeat (exact HSub.refl _)) ?_
      rw [putAt_all (by rw [hpl]; rfl)]
      refine LW.region ?_
      refine X.u (LU.moveR Is.rfl') rfl ?_
      refine X.u (LU.weak (LU.loadO 1 rfl ⟨Tryd.sizeOf35, Tryd.isAgg35⟩ Is.rfl' (Part.sub (by (simp; omega)))) (Is.of (y := .agg (vxL p.1)) (congrArg LV.agg (by rw [List.drop_zero, List.take_of_length_le (by rw [hpl]; exact Nat.le_refl _)])))) rfl ?_
      refine X.u (LU.fieldO Tryd.underlying73 rfl Tryd.sizeOf26 (by decide) Is.rfl') rfl ?_
      refine X.u (LU.loadO 0 rfl ⟨Tryd.sizeOf26, Tryd.isAgg26⟩ Is.rfl' (Part.one rfl)) rfl ?_
      refine X.u (LU.weak (LU.lenN Tryd.underlying26 Is.rfl' (by (simp only [Option.getD_some, Option.getD_none, byteEls_length, intEls_length, List.length_append, List.length_cons, List.length_nil, List.length_map, List.length_drop, List.length_take, Int.toNat_natCast]; rfl))) (Is.of (y := i64 ((p.2.prev.length : Nat) : Int)) (congrArg i64 (by rfl)))) rfl ?_
      refine X.act (LO.mapUpdate (st := ⟨_, _, _⟩) 3 (KeyOk.vx vxty) rfl Tryd.underlying87 Is.rfl' (by exact Is.vx _) Is.rfl' ?_)
      refine LL.nil (after_blk (after_rnd ?_))
      refine X.next ((seen ++ [i21], setA W p.1 ((p.2.prev.length : Nat) : Int))) rfl (EnvLe.nil) (Keeps.cons (by exact Eq.trans (b := .raw _) rfl rfl) (Keeps.cons (by exact Eq.trans (b := .sl _ _ _) rfl rfl) (Keeps.cons (by exact Eq.trans (b := .sl _ _ _) rfl rfl) (Keeps.cons (by exact Eq.trans (b := .raw _) rfl rfl) (Keeps.cons (by exact Eq.trans (b := .raw _) rfl rfl) (Keeps.cons (by exact Eq.trans (b := .raw _) rfl rfl) (Keeps.cons (by exact Eq.trans (b := .raw _) rfl rfl) (Keeps.nil)))))))) (by show L.HSub _ (.mapr ma b20 (mp vxV (encM lnE m)) (seen ++ [i21]) :: gW b15 (setA W p.1 ((p.2.prev.length : Nat) : Int)) :: gC g ma mb n :: kb :: Rf); rw [← gW_set]; exact (by repeat (first | exact HSub.refl _ | refine HSub.pick 0 rfl ?_ | refine HSub.pick 2 rfl ?_ | refine HSub.pick 3 rfl ?_ | refine HSub.drop ?_))) ?_ ?_
      · refine ⟨fun i hi => ?_, fun i hi p' hp' => ?_⟩
        · rcases List.mem_append.1 hi with h | h
          · exact hsl i h
          · rw [List.mem_singleton.1 h]; exact hil2
        · rw [look_setA]
          have h1 := hpm i p' hp'
          by_cases c : p.1 = p'.1
          · rw [if_pos c]
            have h2 := hpm _ p hp
            rw [c, h1] at h2
            rw [Option.some.inj h2]
          · rw [if_neg c]
            rcases List.mem_append.1 hi with h | h
            · exact hsb i h p' hp'
            · rw [List.mem_singleton.1 h, hp] at hp'
              exact absurd (by rw [Option.some.inj hp']) c
      · omega
    · refine X.u (LU.extract Is.rfl' rfl) rfl ?_
      refine LL.nil (after_code ?_)
      refine LW.seq ?_
      refine X.condF rfl ?_ ?_
      · rfl
      refine LW.exit (exit_code (exit_rnd (exit_blk (after_code ?_))))
      refine LW.seq ?_
      have hall : ∀ v ∈ topV :: botV :: idsG r.L, lookA W v = some (((pvE (Er r) v).length : Nat) : Int) := fun v hv => by
        obtain ⟨p, hp, rfl⟩ := List.mem_map.1 (hrel.keys.mem_iff.2 hv)
        obtain ⟨i, hi⟩ := List.getElem?_of_mem hp
        rw [hsb i (hall21 i (by rw [mp_len]; exact (List.getElem?_eq_some_iff.1 hi).1)) p hi, ← hrel.prev]
        unfold atG
        rw [hpm i p hi]; rfl
      have hKO0 := KO.first ho hall
      refine X.wghost (H' := gW b15 W :: gC g ma mb n :: gA ma m :: kb :: Rf) (HSub.trans (HSub.ranged _ _ _ _ _) (by repeat (first | exact HSub.refl _ | refine HSub.pick 1 rfl ?_))) ?_
      refine X.wweak (t := 3) (v := Vxs [] (.tok 0 0 0)) (Is.full_tok 0 0) ?_
      refine X.wghost (HSub.tail0 0 0 0 (Nat.le_refl _) _) ?_
      refine LW.region ?_
      refine X.u (LU.weak (LU.build (places := #[(0, 32), (32, 1)]) Tryd.underlying35 Tryd.zeroValue35 (ones rfl) (by intro w; simp [Tryd.sizeOf3, Tryd.sizeOf31]) Parts.nil rfl) (Is.of (y := .agg (vxL topV)) (rfl))) rfl ?_
      refine X.act (X.alloc rfl Tryd.zeroValue35 (by exact Cells.rawagg (by decide)) (fun b9 => ?_))
      refine X.act (X.store 0 rfl Tryd.sizeOf35 Is.rfl' Is.rfl' (by exact Cells.agg) (by (simp; done)) (by exact Nat.le_of_ble_eq_true rfl) ?_)
      refine LL.nil (after_code ?_)
      refine LW.seq ?_
      refine LW.label (after_code ?_)
      refine LW.seq ?_
      refine LW.block ?_
      rw [putAt_all (by rw [vxL_len]; rfl)]
      refine X.wghost (H' := .tail 0 0 0 :: gW b15 W :: .cells b9 35 (vxL topV) :: gC g ma mb n :: gA ma m :: kb :: Rf) (by repeat (first | exact HSub.refl _ | refine HSub.pick 1 rfl ?_)) ?_
      refine X.loopK (α := List Vx × List (Vx × Int) × List Vx × List Vx × Option Nat × TypeId × Nat × Nat × Nat × List LV × Option Nat × TypeId × Nat × Nat × Nat × List LV × Nat × Nat × Nat) (fun ⟨out, W0, R, Nr, An, ten, offn, nn, cn, xsn, Ar, ter, offr, nr, cr, xsr, b, o, e⟩ => [(3, Vxs out (.tok b o e)), (4, ownV Ar offr nr cr), (5, ownV An offn nn cn)]) [0, 2, 6, 9] (fun ⟨out, W0, R, Nr, An, ten, offn, nn, cn, xsn, Ar, ter, offr, nr, cr, xsr, b, o, e⟩ => .tail b o e :: gW b15 W0 :: .cells b9 35 (vxL (lastO out)) :: gC g ma mb n :: gA ma m :: kb :: (ownA An ten xsn ++ (ownA Ar ter xsr ++ Rf))) (fun ⟨out, W0, R, Nr, An, ten, offn, nn, cn, xsn, Ar, ter, offr, nr, cr, xsr, b, o, e⟩ => Run (Ee r) (Ss r) out ∧ KO r out W0 R ∧ OwnS 33 (vxs R) Ar offr nr cr xsr ∧ OwnS 33 (vxs Nr) An offn nn cn xsn) (fun ⟨out, W0, R, Nr, An, ten, offn, nn, cn, xsn, Ar, ter, offr, nr, cr, xsr, b, o, e⟩ => (idsG r.L).length - out.length) (([], W, [], [], none, 0, 0, 0, 0, [], none, 0, 0, 0, 0, [], 0, 0, 0)) (EnvLe.cons (by rfl) (EnvLe.cons (by rfl) (EnvLe.cons (by rfl) (EnvLe.nil)))) (by repeat (exact HSub.refl _)) ?_ ?_
      · exact ⟨Run.nil, hKO0, OwnS.none 33, OwnS.none 33⟩
      · rintro ⟨out, W0, R, Nr, An, ten, offn, nn, cn, xsn, Ar, ter, offr, nr, cr, xsr, b, o, e⟩ hI
        obtain ⟨hrun, hKO, owr, own⟩ := hI
        have hll := vxL_len (lastO out)
        have hl32 : (lastO out).p.1.length = 32 := (lastO out).p.2
        have hl32s : (out.getLast?.getD topV).p.1.length = 32 := (out.getLast?.getD topV).p.2
        have hol := run_len ho hrun
        have own0 : OwnS 33 (vxs []) An offn 0 cn xsn := OwnS.cut0 own
        have hnle := own.le
        obtain ⟨x, hx⟩ : ∃ x, x = atG m (lastO out) := ⟨_, rfl⟩
        have hxn : x.next = nxE (Er r) (lastO out) := by rw [hx]; exact hrel.next _
        have hxi : Is ((lookM (encM lnE m) (lastO out)).getD (.raw z73)) (lnE x) := by rw [hx]; exact at_is m _
        have hxl : x.next.length ≤ 1025 := by rw [hx]; exact (hsz _).1
        have hKI0 := hKO.opened ho hrun
        rw [← hxn] at hKI0
        refine LW.block ?_
        refine LW.seq ?_
        refine LW.region ?_
        refine X.u (LU.moveR Is.rfl') rfl ?_
        refine X.u (LU.weak (LU.sliceR (l := none) (h := some (0 : Int)) Tryd.sizeOf35 Tryd.underlying26 Is.rfl' trivial ⟨_, Is.rfl'⟩ (by simp) (by simp) (by simp) (by omega)) (Is.of (y := ownV An offn 0 cn) (congrArg LV.raw ((sliced0A An offn _ _).trans (by simp))))) rfl ?_
        refine X.u (LU.assignR Is.rfl') rfl ?_
        refine LL.nil (after_code ?_)
        refine LW.seq ?_
        refine LW.seq ?_
        refine X.drawM 9 rfl (by kernel_rfl) rfl ?_
        refine QD.u (LU.moveR Is.rfl') rfl ?_
        refine QD.u (LU.nilCheck Is.rfl') rfl ?_
        refine QD.u (LU.fieldO Tryd.underlying68 rfl Tryd.sizeOf65 (by decide) Is.rfl') rfl ?_
        refine QD.u (LU.loadO 3 rfl ⟨Tryd.sizeOf65, Tryd.isAgg65⟩ Is.rfl' (Part.one rfl)) rfl ?_
        refine QD.u (LU.loadO 2 rfl ⟨Tryd.sizeOf35, Tryd.isAgg35⟩ Is.rfl' (Part.whole (by assumption))) rfl ?_
        refine QD.u (LU.weak (LU.lookup 4 (KeyOk.vx vxty) rfl Tryd.underlying65 Tryd.zeroValue73 Is.rfl' (by exact Is.vx _)) (hxi)) rfl ?_
        refine QD.u (LU.field Tryd.underlying73 rfl ⟨Tryd.sizeOf26, Tryd.isAgg26⟩ Is.rfl' (Part.one rfl)) rfl ?_
        refine QD.u (LU.lenN Tryd.underlying26 Is.rfl' (by (simp only [Option.getD_some, Option.getD_none, byteEls_length, intEls_length, List.length_append, List.length_cons, List.length_nil, List.length_map, List.length_drop, List.length_take, Int.toNat_natCast]; rfl))) rfl ?_
        refine QD.u (LU.moveR Is.rfl') rfl ?_
        refine QD.nil ?_
        refine LL.nil (after_code ?_)
        refine LW.block ?_
        refine X.wghost (H' := gW b15 W0 :: .cells b9 35 (vxL (lastO out)) :: .tail b o e :: gC g ma mb n :: gA ma m :: kb :: (ownA An ten xsn ++ (ownA Ar ter xsr ++ Rf))) (by repeat (first | exact HSub.refl _ | refine HSub.pick 1 rfl ?_)) ?_
        refine X.loopK (α := Nat × List (Vx × Int) × List Vx × Option Nat × TypeId × Nat × Nat × Nat × List LV) (fun ⟨j, W2, R2, Ar2, ter2, offr2, nr2, cr2, xsr2⟩ => [(42, i64 j), (4, ownV Ar2 offr2 nr2 cr2)]) [0, 2, 3, 5, 6, 9, 40, 41] (fun ⟨j, W2, R2, Ar2, ter2, offr2, nr2, cr2, xsr2⟩ => gW b15 W2 :: .cells b9 35 (vxL (lastO out)) :: .tail b o e :: gC g ma mb n :: gA ma m :: kb :: (ownA An ten xsn ++ (ownA Ar2 ter2 xsr2 ++ Rf))) (fun ⟨j, W2, R2, Ar2, ter2, offr2, nr2, cr2, xsr2⟩ => j ≤ x.next.length ∧ KI r out (x.next.drop j) W2 R2 ∧ OwnS 33 (vxs R2) Ar2 offr2 nr2 cr2 xsr2) (fun ⟨j, W2, R2, Ar2, ter2, offr2, nr2, cr2, xsr2⟩ => x.next.length - j) ((0, W0, R, Ar, ter, offr, nr, cr, xsr)) (EnvLe.cons (by rfl) (EnvLe.cons (by rfl) (EnvLe.nil))) (by repeat (exact HSub.refl _)) ?_ ?_
        · exact ⟨Nat.zero_le _, hKI0, owr⟩
        · rintro ⟨j, W2, R2, Ar2, ter2, offr2, nr2, cr2, xsr2⟩ hI
          obtain ⟨hj, hKI, owr2⟩ := hI
          have hnR2 : R2.length = nr2 := by have := owr2.cnt; rwa [List.length_map] at this
          have hRl2 : R2.length ≤ 512 := Nat.le_trans (nodup_len hKI.nd fun y hy => ((hKI.r y).1 hy).1) hlen
          refine LW.seq ?_
          refine LW.region ?_
          refine X.u (LU.lss Is.rfl' Is.rfl') rfl ?_
          refine LL.nil (after_code ?_)
          refine LW.seq ?_
          refine X.cond rfl (fun h10 => ?_) (fun h10 => ?_)
          · try have h10 := of_decide_eq_true h10
            refine LW.skip (after_code ?_)
            refine LW.seq ?_
            refine LW.block ?_
            refine LW.seq ?_
            obtain ⟨w, hw⟩ := at_lt (show j < x.next.length by omega)
            have hwl := vxL_len w
            have hw32 : w.p.1.length = 32 := w.p.2
            have hwn : w ∈ nxE (Er r) (lastO out) := by rw [← hxn]; exact List.mem_of_getElem? hw
            obtain ⟨hwo, hwk⟩ := next_new ho hrun hwn
            have hwt : w ≠ topV := fun c => by rw [c] at hwn; exact ho.to_top (nxE_mem.1 hwn)
            rw [drop_at hw] at hKI
            obtain ⟨hw1, hKI2⟩ := hKI.step ho hwo hwk hwt
            have hw1l : remE r w (topV :: out) + (x.next.drop (j + 1)).count w ≤ 3000 := by
              have q1 := remE_le r w (topV :: out)
              have q2 := List.count_le_length (l := x.next.drop (j + 1)) (a := w)
              rw [List.length_drop] at q2
              have q3 := (hsz w).2
              rw [hrel.prev] at q3
              omega
            obtain ⟨w1, hw1d⟩ : ∃ w1, w1 = remE r w (topV :: out) + (x.next.drop (j + 1)).count w := ⟨_, rfl⟩
            rw [← hw1d] at hw1 hKI2 hw1l
            have hget : (lookM (encM iE W2) w).getD (.raw (.int .i64 0)) = i64 ((w1 + 1 : Nat) : Int) := by rw [look_enc, hw1]; rfl
            have hget2 : (lookM (encM iE (setA W2 w (w1 : Nat))) w).getD (.raw (.int .i64 0)) = i64 (w1 : Nat) := by rw [look_enc, look_setA, if_pos rfl]; rfl
            refine LW.region ?_
            refine X.u (LU.at Tryd.underlying26 ⟨Tryd.sizeOf35, Tryd.isAgg35⟩ Is.rfl' Is.rfl' (by omega) (vxs_at hw) (vx_ne w)) rfl ?_
            refine X.u (LU.weak (LU.load ⟨Tryd.sizeOf35, Tryd.isAgg35⟩ Is.rfl' (by assumption) (Part.whole (by assumption))) (Is.of (y := .agg (vxL w)) (rfl))) rfl ?_
            refine X.act (X.alloc rfl Tryd.zeroValue35 (by exact Cells.rawagg (by decide)) (fun b11 => ?_))
            refine X.act (X.store 0 rfl Tryd.sizeOf35 Is.rfl' Is.rfl' (by exact Cells.agg) (by assumption) (by exact Nat.le_of_ble_eq_true rfl) ?_)
            refine LL.nil (after_code ?_)
            refine LW.seq ?_
            refine X.wcells (ys := vxL w) (putAt_all (by rw [hwl]; rfl)) ?_
            refine X.wghost (H' := gW b15 W2 :: .cells b11 35 (vxL w) :: .cells b9 35 (vxL (lastO out)) :: .tail b o e :: gC g ma mb n :: gA ma m :: kb :: (ownA An ten xsn ++ (ownA Ar2 ter2 xsr2 ++ Rf))) (by repeat (first | exact HSub.refl _ | refine HSub.pick 1 rfl ?_)) ?_
            refine LW.invM (m := 6) (γ := Nat × Nat) [(0, 46), (1, 47), (2, 48), (3, 49), (4, 50), (5, 51)] (fun g_ d => match g_ with | ⟨s_, q_⟩ => match d with | 46 => .raw (.map (some b15)) | 47 => .agg (vxL w) | 48 => i64 ((w1 + 1 : Nat) : Int) | 49 => i64 (w1 : Nat) | 50 => .tup [i64 ((w1 + 1 : Nat) : Int), i64 (s_ : Nat)] | 51 => i64 (q_ : Nat) | _ => .any) (fun g_ f => match g_ with | ⟨s_, q_⟩ => cond (f 4) (.mape b15 (mp vxV (entM (encM iE W2) w (.raw (.int .i64 0)))) (entI (encM iE W2) w) (cond (f 5) q_ s_)) (gW b15 W2) :: .cells b11 35 (vxL w) :: .cells b9 35 (vxL (lastO out)) :: .tail b o e :: gC g ma mb n :: gA ma m :: kb :: (ownA An ten xsn ++ (ownA Ar2 ter2 xsr2 ++ Rf))) (0, 0) rfl (by kernel_rfl) rfl rfl ((HSub.refl _)) ?_ ?_
            · intro i hi f g_ hfi hdir hdown
              obtain ⟨s_, q_⟩ := g_
              have hc : i = 0 ∨ i = 1 ∨ i = 2 ∨ i = 3 ∨ i = 4 ∨ i = 5 := by omega
              rcases hc with rfl | rfl | rfl | rfl | rfl | rfl
              · refine ⟨_, rfl, ?_⟩
                refine A.u (LU.moveR Is.rfl') rfl ?_
                refine ⟨⟨s_, q_⟩, Weaker.mk' ?_ (HSub.refl _)⟩
                refine env_back0 (envS_hit (sl := [(0, 46), (1, 47), (2, 48), (3, 49), (4, 50), (5, 51)]) (j := 0) (d := 46) rfl (fun _ _ h => h))  (envS_next ?_)
                · intro p hp hne; simp only [List.mem_cons, List.not_mem_nil, or_false] at hp; rcases hp with rfl | rfl | rfl | rfl | rfl | rfl <;> first | exact absurd rfl hne | exact ⟨rfl, rfl⟩
              · refine ⟨_, rfl, ?_⟩
                refine A.u (LU.loadO 1 rfl ⟨Tryd.sizeOf35, Tryd.isAgg35⟩ Is.rfl' (Part.whole (by assumption))) rfl ?_
                refine ⟨⟨s_, q_⟩, Weaker.mk' ?_ (HSub.refl _)⟩
                refine env_back0 (envS_hit (sl := [(0, 46), (1, 47), (2, 48), (3, 49), (4, 50), (5, 51)]) (j := 1) (d := 47) rfl (fun _ _ h => h))  (envS_next ?_)
                · intro p hp hne; simp only [List.mem_cons, List.not_mem_nil, or_false] at hp; rcases hp with rfl | rfl | rfl | rfl | rfl | rfl <;> first | exact absurd rfl hne | exact ⟨rfl, rfl⟩
              · have d0 := hdir 0 (List.mem_of_elem_eq_true (by kernel_rfl))
                have d1 := hdir 1 (List.mem_of_elem_eq_true (by kernel_rfl))
                refine ⟨_, rfl, ?_⟩
                refine LP.weak (t := 46) (v := .raw (.map (some b15))) (envS_is (j := 0) rfl d0) ?_
                refine LP.weak (t := 47) (v := .agg (vxL w)) (envS_is (j := 1) rfl d1) ?_
                refine A.u (LU.weak (LU.lookupC 0 (KeyOk.vx vxty) rfl Tryd.underlying87 Tryd.zeroValue3 Is.rfl' (Is.vx _)) (Is.of (y := i64 ((w1 + 1 : Nat) : Int)) (hget))) rfl ?_
                refine ⟨⟨s_, q_⟩, Weaker.mk' ?_ (HSub.refl _)⟩
                refine env_back2 (envS_hit (sl := [(0, 46), (1, 47), (2, 48), (3, 49), (4, 50), (5, 51)]) (j := 2) (d := 48) rfl (fun _ _ h => h)) (envS_hit (sl := [(0, 46), (1, 47), (2, 48), (3, 49), (4, 50), (5, 51)]) (j := 1) (d := 47) rfl (fun _ _ h => h)) (envS_hit (sl := [(0, 46), (1, 47), (2, 48), (3, 49), (4, 50), (5, 51)]) (j := 0) (d := 46) rfl (fun _ _ h => h)) (envS_next ?_)
                · intro p hp hne; simp only [List.mem_cons, List.not_mem_nil, or_false] at hp; rcases hp with rfl | rfl | rfl | rfl | rfl | rfl <;> first | exact absurd rfl hne | exact ⟨rfl, rfl⟩
              · have d2 := hdir 2 (List.mem_of_elem_eq_true (by kernel_rfl))
                refine ⟨_, rfl, ?_⟩
                refine LP.weak (t := 48) (v := i64 ((w1 + 1 : Nat) : Int)) (envS_is (j := 2) rfl d2) ?_
                refine A.u (LU.weak (LU.sub Is.rfl' Is.rfl') (Is.of (y := i64 (w1 : Nat)) (congrArg i64 ((wrap_i64 (by omega) (by omega)).trans (by omega))))) rfl ?_
                refine ⟨⟨s_, q_⟩, Weaker.mk' ?_ (HSub.refl _)⟩
                refine env_back1 (envS_hit (sl := [(0, 46), (1, 47), (2, 48), (3, 49), (4, 50), (5, 51)]) (j := 3) (d := 49) rfl (fun _ _ h => h)) (envS_hit (sl := [(0, 46), (1, 47), (2, 48), (3, 49), (4, 50), (5, 51)]) (j := 2) (d := 48) rfl (fun _ _ h => h)) (envS_next ?_)
                · intro p hp hne; simp only [List.mem_cons, List.not_mem_nil, or_false] at hp; rcases hp with rfl | rfl | rfl | rfl | rfl | rfl <;> first | exact absurd rfl hne | exact ⟨rfl, rfl⟩
              · have d0 := hdir 0 (List.mem_of_elem_eq_true (by kernel_rfl))
                have d1 := hdir 1 (List.mem_of_elem_eq_true (by kernel_rfl))
                refine ⟨_, rfl, ?_⟩
                have h6 : f 5 = false := Bool.eq_false_iff.2 (fun h => by rw [hdown 5 (by omega) h 4 (List.mem_of_elem_eq_true (by kernel_rfl))] at hfi; cases hfi)
                refine LP.ghost (H' := gW b15 W2 :: .cells b11 35 (vxL w) :: .cells b9 35 (vxL (lastO out)) :: .tail b o e :: gC g ma mb n :: gA ma m :: kb :: (ownA An ten xsn ++ (ownA Ar2 ter2 xsr2 ++ Rf))) (by rw [hfi]; exact HSub.refl _) ?_
                refine LP.weak (t := 46) (v := .raw (.map (some b15))) (envS_is (j := 0) rfl d0) ?_
                refine LP.weak (t := 47) (v := .agg (vxL w)) (envS_is (j := 1) rfl d1) ?_
                refine A.act (LO.mapEntry (st := ⟨_, _, _⟩) 0 rfl (KeyOk.vx vxty) rfl Tryd.underlying87 Tryd.zeroValue3 Is.rfl' (by exact Is.vx _) (fun s50 => ?_))
                refine ⟨(s50, q_), Weaker.mk' ?_ (by show L.HSub _ (.mape b15 (mp vxV (entM (encM iE W2) w (.raw (.int .i64 0)))) (entI (encM iE W2) w) (cond (f 5) q_ s50) :: _); rw [h6]; exact HSub.refl _)⟩
                refine env_back2 (envS_hit (sl := [(0, 46), (1, 47), (2, 48), (3, 49), (4, 50), (5, 51)]) (j := 4) (d := 50) rfl (Is.of (congrArg (fun z => LV.tup [z, i64 (s50 : Nat)]) hget))) (envS_hit (sl := [(0, 46), (1, 47), (2, 48), (3, 49), (4, 50), (5, 51)]) (j := 1) (d := 47) rfl (fun _ _ h => h)) (envS_hit (sl := [(0, 46), (1, 47), (2, 48), (3, 49), (4, 50), (5, 51)]) (j := 0) (d := 46) rfl (fun _ _ h => h)) (envS_next ?_)
                · intro p hp hne; simp only [List.mem_cons, List.not_mem_nil, or_false] at hp; rcases hp with rfl | rfl | rfl | rfl | rfl | rfl <;> first | exact absurd rfl hne | exact ⟨rfl, rfl⟩
              · have d4 := hdir 4 (List.mem_of_elem_eq_true (by kernel_rfl))
                refine ⟨_, rfl, ?_⟩
                refine LP.weak (t := 50) (v := .tup [i64 ((w1 + 1 : Nat) : Int), i64 (s_ : Nat)]) (envS_is (j := 4) rfl d4) ?_
                refine A.u (LU.extract Is.rfl' rfl) rfl ?_
                refine ⟨(s_, s_), Weaker.mk' ?_ (by show L.HSub (cond (f 4) (.mape b15 (mp vxV (entM (encM iE W2) w (.raw (.int .i64 0)))) (entI (encM iE W2) w) (cond (f 5) q_ s_)) (gW b15 W2) :: _) (cond (f 4) (.mape b15 (mp vxV (entM (encM iE W2) w (.raw (.int .i64 0)))) (entI (encM iE W2) w) s_) (gW b15 W2) :: _); rw [hfi]; exact HSub.refl _)⟩
                refine env_back1 (envS_hit (sl := [(0, 46), (1, 47), (2, 48), (3, 49), (4, 50), (5, 51)]) (j := 5) (d := 51) rfl (fun _ _ h => h)) (envS_hit (sl := [(0, 46), (1, 47), (2, 48), (3, 49), (4, 50), (5, 51)]) (j := 4) (d := 50) rfl (fun _ _ h => h)) (envS_next ?_)
                · intro p hp hne; simp only [List.mem_cons, List.not_mem_nil, or_false] at hp; rcases hp with rfl | rfl | rfl | rfl | rfl | rfl <;> first | exact absurd rfl hne | exact ⟨rfl, rfl⟩
            · intro g_ f hf_
              obtain ⟨s_, q_⟩ := g_
              refine X.ghost (H' := .mape b15 (mp vxV (entM (encM iE W2) w (.raw (.int .i64 0)))) (entI (encM iE W2) w) q_ :: .cells b11 35 (vxL w) :: .cells b9 35 (vxL (lastO out)) :: .tail b o e :: gC g ma mb n :: gA ma m :: kb :: (ownA An ten xsn ++ (ownA Ar2 ter2 xsr2 ++ Rf))) (by show L.HSub (cond (f 4) (.mape b15 (mp vxV (entM (encM iE W2) w (.raw (.int .i64 0)))) (entI (encM iE W2) w) (cond (f 5) q_ s_)) _ :: _) _; rw [hf_ 4 (by omega), hf_ 5 (by omega)]; exact HSub.refl _) ?_
              refine X.act (X.entryStore 0 rfl Is.rfl' Is.rfl' Is.rfl' ?_)
              refine LL.nil (after_code ?_)
              refine LW.seq ?_
              refine X.wghost (H' := gW b15 (setA W2 w (w1 : Nat)) :: .cells b11 35 (vxL w) :: .cells b9 35 (vxL (lastO out)) :: .tail b o e :: gC g ma mb n :: gA ma m :: kb :: (ownA An ten xsn ++ (ownA Ar2 ter2 xsr2 ++ Rf))) (by rw [← gW_set]; exact (by repeat (exact HSub.refl _))) ?_
              refine LW.region ?_
              refine X.u (LU.moveR Is.rfl') rfl ?_
              refine X.u (LU.loadO 1 rfl ⟨Tryd.sizeOf35, Tryd.isAgg35⟩ Is.rfl' (Part.whole (by assumption))) rfl ?_
              refine X.u (LU.weak (LU.lookup 0 (KeyOk.vx vxty) rfl Tryd.underlying87 Tryd.zeroValue3 Is.rfl' (by exact Is.vx _)) (Is.of (y := i64 (w1 : Nat)) (hget2))) rfl ?_
              refine X.u (LU.eql Is.rfl' Is.rfl') rfl ?_
              refine X.u (LU.moveR Is.rfl') rfl ?_
              refine X.gT rfl rfl (fun hg => LU.loadO 1 rfl ⟨Tryd.sizeOf35, Tryd.isAgg35⟩ (by exact Is.rfl') (Part.whole (by assumption))) rfl ?_
              refine X.gT rfl rfl (fun hg => LU.loadK 6 rfl ⟨Tryd.sizeOf35, Tryd.isAgg35⟩ (by exact Is.rfl') (by decide) (by decide) (Part.whole (by (simp; done)))) rfl ?_
              refine X.gT rfl rfl (fun hg => LU.neqVx vxty (by exact Is.whenE hg) (by exact Is.whenE hg)) rfl ?_
              refine X.u (LU.pickAnd Is.rfl' (fun hq => (by exact Is.whenE hq)) Is.rfl') rfl ?_
              refine LL.nil (after_code ?_)
              refine X.cond rfl (fun h13 => ?_) (fun h13 => ?_)
              · have h13 : w1 = 0 ∧ w ≠ botV := by simpa using h13
                rw [if_pos h13] at hKI2
                refine LW.region ?_
                refine X.u (LU.moveR Is.rfl') rfl ?_
                refine X.u (LU.loadO 1 rfl ⟨Tryd.sizeOf35, Tryd.isAgg35⟩ Is.rfl' (Part.whole (by assumption))) rfl ?_
                refine X.u (LU.lits Tryd.underlying26 Tryd.sizeOf35 Tryd.zeroValue35 (ones rfl) rfl (by decide) (by decide) (Elems.cons Is.rfl' (by exact Cells.agg) Elems.nil) (by (simp; assumption)) rfl) rfl ?_
                refine X.act (X.appendR owr2 (hswap (ownA Ar2 ter2 xsr2) Rf ([gW b15 (setA W2 w (w1 : Nat)), .cells b11 35 (vxL w), .cells b9 35 (vxL (lastO out)), .tail b o e, gC g ma mb n, gA ma m, kb] ++ ownA An ten xsn)) rfl Tryd.underlying26 (El.of (P := Tryd.prog) (z := z35) (size := 33) (bytes := 40) rfl rfl rfl) (ones rfl) Is.rfl' Is.rfl' (SrcL.slice Tryd.underlying26 (by decide) (vxs_size [w])) (by simp) (by simp; omega) (by simp; omega) (fun b64 te64 off64 c64 xs64 ow64 => ?_))
                refine LL.ghost (H' := gW b15 (setA W2 w (w1 : Nat)) :: .cells b11 35 (vxL w) :: .cells b9 35 (vxL (lastO out)) :: .tail b o e :: gC g ma mb n :: gA ma m :: kb :: (ownA An ten xsn ++ (ownA (some b64) te64 xs64 ++ Rf))) (hpush _ Rf ([gW b15 (setA W2 w (w1 : Nat)), .cells b11 35 (vxL w), .cells b9 35 (vxL (lastO out)), .tail b o e, gC g ma mb n, gA ma m, kb] ++ ownA An ten xsn)) ?_
                refine X.u (LU.assignR Is.rfl') rfl ?_
                refine LL.nil (after_blk (after_code ?_))
                refine LW.region ?_
                refine X.u (LU.addN Is.rfl' Is.rfl' (wrap_i64 (by omega) (by omega))) rfl ?_
                refine X.u (LU.moveR Is.rfl') rfl ?_
                refine LL.nil (after_rnd ?_)
                refine X.next ((j + 1, setA W2 w (w1 : Nat), R2 ++ [w], some b64, te64, off64, nr2 + 1, c64, xs64)) rfl (EnvLe.cons (by rfl) (EnvLe.cons (by rfl) (EnvLe.nil))) (Keeps.cons (by exact Eq.trans (b := .raw _) rfl rfl) (Keeps.cons (by exact Eq.trans (b := .sl _ _ _) rfl rfl) (Keeps.cons (by exact Eq.trans (b := .sl _ _ _) rfl rfl) (Keeps.cons (by exact Eq.trans (b := .raw _) rfl rfl) (Keeps.cons (by exact Eq.trans (b := .raw _) rfl rfl) (Keeps.cons (by exact Eq.trans (b := .raw _) rfl rfl) (Keeps.cons (by exact Eq.trans (b := .sl _ _ _) rfl rfl) (Keeps.cons (by exact Eq.trans (b := .raw _) rfl rfl) (Keeps.nil))))))))) (by repeat (first | exact HSub.refl _ | refine HSub.pick 0 rfl ?_ | refine HSub.pick 1 rfl ?_ | refine HSub.drop ?_)) ?_ ?_
                · exact ⟨by omega, hKI2, by rw [← vxs_app]; exact ow64⟩
                · (simp; omega)
              · have h13 : ¬ (w1 = 0 ∧ w ≠ botV) := by simpa using h13
                rw [if_neg h13] at hKI2
                refine LW.skip (after_blk (after_code ?_))
                refine LW.region ?_
                refine X.u (LU.addN Is.rfl' Is.rfl' (wrap_i64 (by omega) (by omega))) rfl ?_
                refine X.u (LU.moveR Is.rfl') rfl ?_
                refine LL.nil (after_rnd ?_)
                refine X.next ((j + 1, setA W2 w (w1 : Nat), R2, Ar2, ter2, offr2, nr2, cr2, xsr2)) rfl (EnvLe.cons (by rfl) (EnvLe.cons (by rfl) (EnvLe.nil))) (Keeps.cons (by exact Eq.trans (b := .raw _) rfl rfl) (Keeps.cons (by exact Eq.trans (b := .sl _ _ _) rfl rfl) (Keeps.cons (by exact Eq.trans (b := .sl _ _ _) rfl rfl) (Keeps.cons (by exact Eq.trans (b := .raw _) rfl rfl) (Keeps.cons (by exact Eq.trans (b := .raw _) rfl rfl) (Keeps.cons (by exact Eq.trans (b := .raw _) rfl rfl) (Keeps.cons (by exact Eq.trans (b := .sl _ _ _) rfl rfl) (Keeps.cons (by exact Eq.trans (b := .raw _) rfl rfl) (Keeps.nil))))))))) (by repeat (first | exact HSub.refl _ | refine HSub.pick 0 rfl ?_ | refine HSub.pick 1 rfl ?_ | refine HSub.drop ?_)) ?_ ?_
                · exact ⟨by omega, hKI2, owr2⟩
                · (simp; omega)
          · try have h10 := of_decide_eq_false h10
            refine LW.exit (exit_code (exit_rnd (exit_blk (after_code ?_))))
            refine LW.seq ?_
            refine LW.seq ?_
            have hjl : j = x.next.length := by omega
            rw [hjl, List.drop_length] at hKI
            have hRdy := hKI.done ho
            refine X.wghost (H' := ownA Ar2 ter2 xsr2 ++ (gW b15 W2 :: .cells b9 35 (vxL (lastO out)) :: .tail b o e :: gC g ma mb n :: gA ma m :: kb :: (ownA An ten xsn ++ Rf))) (hswap (ownA Ar2 ter2 xsr2) Rf ([gW b15 W2, .cells b9 35 (vxL (lastO out)), .tail b o e, gC g ma mb n, gA ma m, kb] ++ ownA An ten xsn)) ?_
            refine LW.region ?_
            refine X.u (LU.moveR Is.rfl') rfl ?_
            refine X.u (LU.lenO Tryd.underlying26 Is.rfl') rfl ?_
            refine X.u (LU.moveR Is.rfl') rfl ?_
            refine LL.nil (after_code ?_)
            refine LW.block ?_
            refine X.loopK (α := Nat × List Vx × Option Nat × TypeId × Nat × Nat × Nat × List LV) (fun ⟨i, Nr2, An2, ten2, offn2, nn2, cn2, xsn2⟩ => [(68, i64 i), (5, ownV An2 offn2 nn2 cn2)]) [0, 2, 3, 4, 6, 9, 66, 67] (fun ⟨i, Nr2, An2, ten2, offn2, nn2, cn2, xsn2⟩ => ownA Ar2 ter2 xsr2 ++ (gW b15 W2 :: .cells b9 35 (vxL (lastO out)) :: .tail b o e :: gC g ma mb n :: gA ma m :: kb :: (ownA An2 ten2 xsn2 ++ Rf))) (fun ⟨i, Nr2, An2, ten2, offn2, nn2, cn2, xsn2⟩ => i ≤ R2.length ∧ Nr2 = (R2.take i).filter (fun y => decide (y ∈ x.next)) ∧ OwnS 33 (vxs Nr2) An2 offn2 nn2 cn2 xsn2) (fun ⟨i, Nr2, An2, ten2, offn2, nn2, cn2, xsn2⟩ => R2.length - i) ((0, [], An, ten, offn, 0, cn, xsn)) (EnvLe.cons (by rfl) (EnvLe.cons (by rfl) (EnvLe.nil))) (by repeat (exact HSub.refl _)) ?_ ?_
            · exact ⟨Nat.zero_le _, by simp, own0⟩
            · rintro ⟨i, Nr2, An2, ten2, offn2, nn2, cn2, xsn2⟩ hI
              obtain ⟨hi, hNr, own2⟩ := hI
              have hnN2 : Nr2.length = nn2 := by have := own2.cnt; rwa [List.length_map] at this
              have hNl2 : Nr2.length ≤ i := by
                rw [hNr]
                refine Nat.le_trans (List.length_filter_le _ _) ?_
                rw [List.length_take]; omega
              refine LW.seq ?_
              refine LW.region ?_
              refine X.u (LU.lss Is.rfl' Is.rfl') rfl ?_
              refine LL.nil (after_code ?_)
              refine LW.seq ?_
              refine X.cond rfl (fun h17 => ?_) (fun h17 => ?_)
              · try have h17 := of_decide_eq_true h17
                refine LW.skip (after_code ?_)
                refine LW.seq ?_
                refine LW.block ?_
                refine LW.seq ?_
                obtain ⟨w, hw⟩ := at_lt (show i < R2.length by omega)
                have hwl := vxL_len w
                have hw32 : w.p.1.length = 32 := w.p.2
                obtain ⟨bA, rfl⟩ := own_some owr2 (by omega)
                have hwa := own_at owr2 (show (vxs R2)[i]? = some (vxL w) by rw [List.getElem?_map, hw]; rfl)
                have howl := owr2.len
                have howle := owr2.le
                have hbd : offr2 + i * 33 + 33 ≤ xsr2.length := by omega
                refine LW.region ?_
                refine X.u (LU.atO Tryd.underlying26 Tryd.sizeOf35 Is.rfl' Is.rfl' (by omega) (by omega)) rfl ?_
                refine X.u (LU.weak (LU.loadO 0 rfl ⟨Tryd.sizeOf35, Tryd.isAgg35⟩ Is.rfl' (Part.sub (by (simp; omega)))) (Is.of (y := .agg (vxL w)) (congrArg LV.agg hwa))) rfl ?_
                refine X.act (X.alloc rfl Tryd.zeroValue35 (by exact Cells.rawagg (by decide)) (fun b13 => ?_))
                refine X.act (X.store 0 rfl Tryd.sizeOf35 Is.rfl' Is.rfl' (by exact Cells.agg) (by assumption) (by exact Nat.le_of_ble_eq_true rfl) ?_)
                refine LL.nil (after_code ?_)
                refine LW.seq ?_
                refine X.wcells (ys := vxL w) (putAt_all (by rw [hwl]; rfl)) ?_
                refine X.drawM 9 rfl (by kernel_rfl) rfl ?_
                refine QD.u (LU.moveR Is.rfl') rfl ?_
                refine QD.u (LU.nilCheck Is.rfl') rfl ?_
                refine QD.u (LU.fieldO Tryd.underlying68 rfl Tryd.sizeOf65 (by decide) Is.rfl') rfl ?_
                refine QD.u (LU.loadO 5 rfl ⟨Tryd.sizeOf65, Tryd.isAgg65⟩ Is.rfl' (Part.one rfl)) rfl ?_
                refine QD.u (LU.loadO 3 rfl ⟨Tryd.sizeOf35, Tryd.isAgg35⟩ Is.rfl' (Part.whole (by assumption))) rfl ?_
                refine QD.u (LU.weak (LU.lookup 6 (KeyOk.vx vxty) rfl Tryd.underlying65 Tryd.zeroValue73 Is.rfl' (by exact Is.vx _)) (hxi)) rfl ?_
                refine QD.u (LU.field Tryd.underlying73 rfl ⟨Tryd.sizeOf26, Tryd.isAgg26⟩ Is.rfl' (Part.one rfl)) rfl ?_
                refine QD.u (LU.loadO 0 rfl ⟨Tryd.sizeOf35, Tryd.isAgg35⟩ Is.rfl' (Part.whole (by assumption))) rfl ?_
                refine QD.u (LU.call (contains_calls x.next .unk w (by omega)) Tryd.func40 rfl rfl (Opds.cons Is.rfl' (Opds.cons Is.rfl' Opds.nil))) rfl ?_
                refine QD.nil ?_
                refine LL.nil (after_code ?_)
                refine X.cond rfl (fun h19 => ?_) (fun h19 => ?_)
                · have h19 : w ∈ x.next := by simpa using h19
                  have hz0 : (0 : Nat) = 0 := rfl
                  refine LW.region ?_
                  refine X.u (LU.moveR Is.rfl') rfl ?_
                  refine X.u (LU.loadO 0 rfl ⟨Tryd.sizeOf35, Tryd.isAgg35⟩ Is.rfl' (Part.whole (by assumption))) rfl ?_
                  refine X.u (LU.lits Tryd.underlying26 Tryd.sizeOf35 Tryd.zeroValue35 (ones rfl) rfl (by decide) (by decide) (Elems.cons Is.rfl' (by exact Cells.agg) Elems.nil) (by (simp; assumption)) rfl) rfl ?_
                  refine X.act (X.appendR own2 (hswap (ownA An2 ten2 xsn2) Rf [.cells b13 35 (vxL w), .cells bA ter2 xsr2, gW b15 W2, .cells b9 35 (vxL (lastO out)), .tail b o e, gC g ma mb n, gA ma m, kb]) rfl Tryd.underlying26 (El.of (P := Tryd.prog) (z := z35) (size := 33) (bytes := 40) rfl rfl rfl) (ones rfl) Is.rfl' Is.rfl' (SrcL.slice Tryd.underlying26 (by decide) (vxs_size [w])) (by simp) (by simp; omega) (by simp; omega) (fun b84 te84 off84 c84 xs84 ow84 => ?_))
                  refine LL.ghost (H' := .cells b13 35 (vxL w) :: .cells bA ter2 xsr2 :: gW b15 W2 :: .cells b9 35 (vxL (lastO out)) :: .tail b o e :: gC g ma mb n :: gA ma m :: kb :: (ownA (some b84) te84 xs84 ++ Rf)) (hpush _ Rf [.cells b13 35 (vxL w), .cells bA ter2 xsr2, gW b15 W2, .cells b9 35 (vxL (lastO out)), .tail b o e, gC g ma mb n, gA ma m, kb]) ?_
                  refine X.u (LU.assignR Is.rfl') rfl ?_
                  refine LL.nil (after_blk (after_code ?_))
                  refine LW.region ?_
                  refine X.u (LU.addN Is.rfl' Is.rfl' (wrap_i64 (by omega) (by omega))) rfl ?_
                  refine X.u (LU.moveR Is.rfl') rfl ?_
                  refine LL.nil (after_rnd ?_)
                  refine X.next ((i + 1, Nr2 ++ [w], some b84, te84, off84, nn2 + 1, c84, xs84)) rfl (EnvLe.cons (by rfl) (EnvLe.cons (by rfl) (EnvLe.nil))) (Keeps.cons (by exact Eq.trans (b := .raw _) rfl rfl) (Keeps.cons (by exact Eq.trans (b := .sl _ _ _) rfl rfl) (Keeps.cons (by exact Eq.trans (b := .sl _ _ _) rfl rfl) (Keeps.cons (by exact Eq.trans (b := .raw _) rfl rfl) (Keeps.cons (by exact Eq.trans (b := .raw _) rfl rfl) (Keeps.cons (by exact Eq.trans (b := .raw _) rfl rfl) (Keeps.cons (by exact Eq.trans (b := .raw _) rfl rfl) (Keeps.cons (by exact Eq.trans (b := .raw _) rfl rfl) (Keeps.nil))))))))) (by repeat (first | exact HSub.refl _ | refine HSub.pick 1 rfl ?_ | refine HSub.drop ?_)) ?_ ?_
                  · exact ⟨by omega, by rw [take_snoc hw, List.filter_append, ← hNr, List.filter_cons, if_pos (decide_eq_true h19)]; rfl, by rw [← vxs_app]; exact ow84⟩
                  · (simp; omega)
                · have h19 : w ∉ x.next := by simpa using h19
                  have hz0 : (0 : Nat) = 0 := rfl
                  refine LW.skip (after_blk (after_code ?_))
                  refine LW.region ?_
                  refine X.u (LU.addN Is.rfl' Is.rfl' (wrap_i64 (by omega) (by omega))) rfl ?_
                  refine X.u (LU.moveR Is.rfl') rfl ?_
                  refine LL.nil (after_rnd ?_)
                  refine X.next ((i + 1, Nr2, An2, ten2, offn2, nn2, cn2, xsn2)) rfl (EnvLe.cons (by rfl) (EnvLe.cons (by rfl) (EnvLe.nil))) (Keeps.cons (by exact Eq.trans (b := .raw _) rfl rfl) (Keeps.cons (by exact Eq.trans (b := .sl _ _ _) rfl rfl) (Keeps.cons (by exact Eq.trans (b := .sl _ _ _) rfl rfl) (Keeps.cons (by exact Eq.trans (b := .raw _) rfl rfl) (Keeps.cons (by exact Eq.trans (b := .raw _) rfl rfl) (Keeps.cons (by exact Eq.trans (b := .raw _) rfl rfl) (Keeps.cons (by exact Eq.trans (b := .raw _) rfl rfl) (Keeps.cons (by exact Eq.trans (b := .raw _) rfl rfl) (Keeps.nil))))))))) (by repeat (first | exact HSub.refl _ | refine HSub.pick 1 rfl ?_ | refine HSub.drop ?_)) ?_ ?_
                  · exact ⟨by omega, by rw [take_snoc hw, List.filter_append, ← hNr, List.filter_cons, if_neg (by simpa using h19)]; simp, own2⟩
                  · (simp; omega)
              · have hil : i = R2.length := by have := of_decide_eq_false h17; omega
                rw [hil, List.take_length] at hNr
                have hNea : ∀ v, Nea (Ee r) (Ss r) out v ↔ v ∈ Nr2 := fun v => by
                  unfold Nea
                  rw [hNr, List.mem_filter, decide_eq_true_eq, hRdy, hxn]
                refine LW.exit (exit_code (exit_rnd (exit_blk (after_code ?_))))
                refine X.meetK (α := Vx) (fun v => []) [0, 2, 3, 4, 5, 6, 9] (fun v => ownA Ar2 ter2 xsr2 ++ (gW b15 W2 :: .cells b9 35 (vxL v) :: .tail b o e :: gC g ma mb n :: gA ma m :: kb :: (ownA An2 ten2 xsn2 ++ Rf))) (fun v => Pick (Ee r) (Ss r) out v ∧ 0 < nr2) ?_ ?_
                · refine LW.block ?_
                  refine LW.seq ?_
                  refine LW.region ?_
                  refine X.u (LU.moveR Is.rfl') rfl ?_
                  refine X.u (LU.lenO Tryd.underlying26 Is.rfl') rfl ?_
                  refine X.u (LU.eql Is.rfl' Is.rfl') rfl ?_
                  refine X.u (LU.assignR Is.rfl') rfl ?_
                  refine LL.nil (after_code ?_)
                  refine X.cond rfl (fun h23 => ?_) (fun h23 => ?_)
                  · have h23 : nr2 = 0 := by simp at h23; omega
                    have hR0 : R2 = [] := List.eq_nil_of_length_eq_zero (by omega)
                    have hord : OrdR r out := ⟨hrun, fun v hv => by have := (hRdy v).2 hv; rw [hR0] at this; cases this⟩
                    refine LW.exit (exit_blk' rfl (exit_rnd (exit_blk' rfl (exit_rnd (exit_blk (after_code ?_))))))
                    refine LW.seq ?_
                    refine LW.region ?_
                    refine X.u (LU.moveS Is.rfl') rfl ?_
                    refine X.u (LU.assignS Is.rfl') rfl ?_
                    refine LL.nil (after_code ?_)
                    refine LW.ret (after_end ?_)
                    refine X.ret (H' := [gC g ma mb n, gA ma m, kb]) (Res.one (by exact IsS rfl)) (HSub.trans (ownA_drop Ar2 ter2 xsr2 _) (HSub.drop (HSub.drop (HSub.drop (HSub.cons (HSub.cons (HSub.cons (ownA_drop An2 ten2 xsn2 Rf)))))))) ?_
                    exact ⟨out, rfl, rfl, hord⟩
                  · have h23 : 0 < nr2 := by simp at h23; omega
                    obtain ⟨bA, rfl⟩ := own_some owr2 h23
                    have howl := owr2.len
                    have howle := owr2.le
                    have hlr : ∃ a l, R2 = a :: l := by
                      cases hq : R2 with
                      | nil => rw [hq] at hnR2; simp at hnR2; omega
                      | cons a l => exact ⟨a, l, rfl⟩
                    obtain ⟨ra, rl, hRa⟩ := hlr
                    have hrll : rl.length < 1000000 := by rw [hRa] at hRl2; simp at hRl2; omega
                    refine LW.seq ?_
                    refine LW.region ?_
                    refine X.u (LU.moveR Is.rfl') rfl ?_
                    refine X.u (LU.lenO Tryd.underlying26 Is.rfl') rfl ?_
                    refine X.u (LU.eql Is.rfl' Is.rfl') rfl ?_
                    refine X.u (LU.assignR Is.rfl') rfl ?_
                    refine LL.nil (after_code ?_)
                    refine X.cond rfl (fun h24 => ?_) (fun h24 => ?_)
                    · have h24 : nn2 = 0 := by simp at h24; omega
                      have hN0 : Nr2 = [] := List.eq_nil_of_length_eq_zero (by omega)
                      have hno : ¬ ∃ w, Nea (Ee r) (Ss r) out w := by
                        rintro ⟨w, hw⟩
                        have := (hNea w).1 hw
                        rw [hN0] at this; cases this
                      have hml := vxL_len (minV ra rl)
                      have hm32 : (minV ra rl).p.1.length = 32 := (minV ra rl).p.2
                      have hp1 : Pick (Ee r) (Ss r) out (minV ra rl) := ⟨fun c => absurd c hno, fun _ => minV_least fun v => by rw [← hRdy, hRa]⟩
                      refine LW.region ?_
                      refine X.u (LU.moveR Is.rfl') rfl ?_
                      refine X.u (LU.weak (LU.lend ((least_calls ra rl .unk hrll).isR (Is.vx _)) Tryd.func55 rfl rfl (OpdsL.cons (by exact IsL.cells (es := vxs (ra :: rl)) (size := 33) (b := bA) (off := offr2) (n := nr2) (c := cr2) 0 rfl Is.rfl' (vxs_size _) (by rw [← hRa]; exact owr2.cnt) (by omega) (by rw [← hRa]; exact owr2.cells.symm) owr2.le) OpdsL.nil)) (Is.rawvx (minV ra rl))) rfl ?_
                      refine X.act (X.store 2 rfl Tryd.sizeOf35 Is.rfl' Is.rfl' (by exact Cells.agg) (by assumption) (by (simp; omega)) ?_)
                      refine LL.nil (after_blk (after_rnd ?_))
                      refine X.meets (minV ra rl) rfl (EnvLe.nil) (Keeps.cons (by exact Eq.trans (b := .raw _) rfl rfl) (Keeps.cons (by exact Eq.trans (b := .sl _ _ _) rfl rfl) (Keeps.cons (by exact Eq.trans (b := .sl _ _ _) rfl rfl) (Keeps.cons (by exact Eq.trans (b := .raw _) rfl rfl) (Keeps.cons (by exact Eq.trans (b := .raw _) rfl rfl) (Keeps.cons (by exact Eq.trans (b := .raw _) rfl rfl) (Keeps.cons (by exact Eq.trans (b := .raw _) rfl rfl) (Keeps.nil)))))))) (by show L.HSub (.cells b9 _ (putAt (vxL (lastO out)) 0 (vxL _)) :: _) (.cells bA ter2 xsr2 :: gW b15 W2 :: .cells b9 _ _ :: _); rw [putAt_all (by rw [hll, vxL_len])]; exact (by repeat (first | exact HSub.refl _ | refine HSub.pick 1 rfl ?_))) ?_
                      exact ⟨hp1, h23⟩
                    · have h24 : 0 < nn2 := by simp at h24; omega
                      obtain ⟨bN, rfl⟩ := own_some own2 h24
                      have hownl := own2.len
                      have hownle := own2.le
                      have hln : ∃ a l, Nr2 = a :: l := by
                        cases hq : Nr2 with
                        | nil => rw [hq] at hnN2; simp at hnN2; omega
                        | cons a l => exact ⟨a, l, rfl⟩
                      obtain ⟨na, nl, hNa⟩ := hln
                      have hnll : nl.length < 1000000 := by rw [hNa] at hNl2; simp at hNl2; omega
                      have hml := vxL_len (minV na nl)
                      have hm32 : (minV na nl).p.1.length = 32 := (minV na nl).p.2
                      have hp1 : Pick (Ee r) (Ss r) out (minV na nl) := ⟨fun _ => minV_least fun v => by rw [hNea, hNa], fun c => absurd ⟨na, (hNea na).2 (by rw [hNa]; simp)⟩ c⟩
                      refine LW.region ?_
                      refine X.u (LU.moveR Is.rfl') rfl ?_
                      refine X.u (LU.weak (LU.lend ((least_calls na nl .unk hnll).isR (Is.vx _)) Tryd.func55 rfl rfl (OpdsL.cons (by exact IsL.cells (es := vxs (na :: nl)) (size := 33) (b := bN) (off := offn2) (n := nn2) (c := cn2) 7 rfl Is.rfl' (vxs_size _) (by rw [← hNa]; exact own2.cnt) (by omega) (by rw [← hNa]; exact own2.cells.symm) own2.le) OpdsL.nil)) (Is.rawvx (minV na nl))) rfl ?_
                      refine X.act (X.store 2 rfl Tryd.sizeOf35 Is.rfl' Is.rfl' (by exact Cells.agg) (by assumption) (by (simp; omega)) ?_)
                      refine LL.nil (after_blk (after_rnd ?_))
                      refine X.meets (minV na nl) rfl (EnvLe.nil) (Keeps.cons (by exact Eq.trans (b := .raw _) rfl rfl) (Keeps.cons (by exact Eq.trans (b := .sl _ _ _) rfl rfl) (Keeps.cons (by exact Eq.trans (b := .sl _ _ _) rfl rfl) (Keeps.cons (by exact Eq.trans (b := .raw _) rfl rfl) (Keeps.cons (by exact Eq.trans (b := .raw _) rfl rfl) (Keeps.cons (by exact Eq.trans (b := .raw _) rfl rfl) (Keeps.cons (by exact Eq.trans (b := .raw _) rfl rfl) (Keeps.nil)))))))) (by show L.HSub (.cells b9 _ (putAt (vxL (lastO out)) 0 (vxL _)) :: _) (.cells bA ter2 xsr2 :: gW b15 W2 :: .cells b9 _ _ :: _); rw [putAt_all (by rw [hll, vxL_len])]; exact (by repeat (first | exact HSub.refl _ | refine HSub.pick 1 rfl ?_))) ?_
                      exact ⟨hp1, h23⟩
                · rintro v hI
                  refine LW.seq ?_
                  obtain ⟨hpick, h23⟩ := hI
                  obtain ⟨bA, rfl⟩ := own_some owr2 h23
                  have howl := owr2.len
                  have howle := owr2.le
                  have hvl := vxL_len v
                  have hv32 : v.p.1.length = 32 := v.p.2
                  have hvR : v ∈ R2 := (hRdy v).2 hpick.rdy
                  have hp0 := placeG_nn hvR
                  have hpr := placeG_range R2 v
                  obtain ⟨ix, hix⟩ : ∃ ix : Nat, placeG R2 v = ix := ⟨(placeG R2 v).toNat, by omega⟩
                  have herase : R2.eraseIdx ix = R2.filter fun y => decide (y ≠ v) := by rw [← place_erase hKI.nd hp0, hix, Int.toNat_natCast]
                  have hov : out.length < (idsG r.L).length := by
                    have := run_len ho (hrun.snoc hpick)
                    rw [List.length_append, List.length_singleton] at this; omega
                  refine LW.region ?_
                  refine X.u (LU.moveR Is.rfl') rfl ?_
                  refine X.u (LU.loadO 2 rfl ⟨Tryd.sizeOf35, Tryd.isAgg35⟩ Is.rfl' (Part.whole (by assumption))) rfl ?_
                  refine X.u (LU.lend (index_calls R2 .unk v (by omega)) Tryd.func56 rfl rfl (OpdsL.cons (by exact IsL.cells (es := vxs R2) (size := 33) (b := bA) (off := offr2) (n := nr2) (c := cr2) 0 rfl Is.rfl' (vxs_size _) owr2.cnt (by omega) owr2.cells.symm owr2.le) (OpdsL.cons (by exact IsL.rfl') OpdsL.nil))) rfl ?_
                  refine X.u (LU.assignR Is.rfl') rfl ?_
                  refine LL.nil (after_code ?_)
                  refine LW.seq ?_
                  refine LW.region ?_
                  refine X.u (LU.moveR Is.rfl') rfl ?_
                  refine X.u (LU.weak (LU.moveR Is.rfl') (Is.of (y := i64 (ix : Nat)) (congrArg i64 hix))) rfl ?_
                  refine X.u (LU.moveR Is.rfl') rfl ?_
                  refine X.u (LU.weak (LU.addN Is.rfl' Is.rfl' (wrap_i64 (by omega) (by omega))) (Is.of (y := i64 ((ix + 1 : Nat) : Int)) (congrArg i64 (by rw [hix]; rfl)))) rfl ?_
                  refine X.act (X.call (delete_calls R2 bA offr2 nr2 cr2 ix ter2 xsr2 owr2 (by omega) (by omega)) Tryd.func57 rfl rfl rfl (by (refine HSub.pick 0 rfl ?_); exact HSub.refl _) (Opds.cons Is.rfl' (Opds.cons Is.rfl' (Opds.cons Is.rfl' Opds.nil))) ?_)
                  rintro r H' ⟨rfl, xsD, rfl, owD⟩
                  refine X.u (LU.assignR Is.rfl') rfl ?_
                  refine LL.nil (after_code ?_)
                  refine X.wghost (H' := .tail b o e :: gW b15 W2 :: .cells b9 35 (vxL v) :: gC g ma mb n :: gA ma m :: kb :: (ownA An2 ten2 xsn2 ++ (ownA (some bA) ter2 xsD ++ Rf))) (HSub.trans (B := [gW b15 W2, .cells b9 35 (vxL v), .tail b o e, gC g ma mb n, gA ma m, kb] ++ ownA An2 ten2 xsn2 ++ (.cells bA ter2 xsD :: Rf)) (hpush _ Rf ([gW b15 W2, .cells b9 35 (vxL v), .tail b o e, gC g ma mb n, gA ma m, kb] ++ ownA An2 ten2 xsn2)) (by repeat (first | exact HSub.refl _ | refine HSub.pick 2 rfl ?_))) ?_
                  refine LW.region ?_
                  refine X.u (LU.moveS Is.rfl') rfl ?_
                  refine X.u (LU.loadO 2 rfl ⟨Tryd.sizeOf35, Tryd.isAgg35⟩ Is.rfl' (Part.whole (by assumption))) rfl ?_
                  refine X.u (LU.lits Tryd.underlying26 Tryd.sizeOf35 Tryd.zeroValue35 (ones rfl) rfl (by decide) (by decide) (Elems.cons Is.rfl' (by exact Cells.agg) Elems.nil) (by (simp; assumption)) rfl) rfl ?_
                  refine X.act (X.append 0 rfl rfl Tryd.underlying26 (El.of (P := Tryd.prog) (z := (.agg #[(.int .u8 0), (.int .u8 0), (.int .u8 0), (.int .u8 0), (.int .u8 0), (.int .u8 0), (.int .u8 0), (.int .u8 0), (.int .u8 0), (.int .u8 0), (.int .u8 0), (.int .u8 0), (.int .u8 0), (.int .u8 0), (.int .u8 0), (.int .u8 0), (.int .u8 0), (.int .u8 0), (.int .u8 0), (.int .u8 0), (.int .u8 0), (.int .u8 0), (.int .u8 0), (.int .u8 0), (.int .u8 0), (.int .u8 0), (.int .u8 0), (.int .u8 0), (.int .u8 0), (.int .u8 0), (.int .u8 0), (.int .u8 0), (.int .i64 0)])) (size := 33) (bytes := 40) rfl rfl rfl) Is.rfl' Is.rfl' (SrcL.slice Tryd.underlying26 (by decide) (by intro e he; rw [List.mem_singleton.1 he]; exact hvl)) (by simp only [Option.getD_some, Option.getD_none, byteEls_length, intEls_length, List.length_append, List.length_cons, List.length_nil, List.length_map, List.length_drop, List.length_take, Int.toNat_natCast]; omega) (by simp only [Option.getD_some, Option.getD_none, byteEls_length, intEls_length, List.length_append, List.length_cons, List.length_nil, List.length_map, List.length_drop, List.length_take, Int.toNat_natCast]; omega) (fun b109 o109 c109 => X.weak (t := 109) (Is.of (y := Vxs (out ++ [v]) (.tok b109 o109 c109)) (congrArg (fun z => LV.sl 33 z (.tok b109 o109 c109)) (vxs_app out [v]))) ?_))
                  refine X.u (LU.assignS Is.rfl') rfl ?_
                  refine LL.nil (after_blk (after_rnd ?_))
                  refine X.next ((out ++ [v], W2, R2.eraseIdx ix, Nr2, An2, ten2, offn2, nn2, cn2, xsn2, some bA, ter2, offr2, nr2 - 1, cr2, xsD, b109, o109, c109)) rfl (EnvLe.cons (by rfl) (EnvLe.cons (by rfl) (EnvLe.cons (by rfl) (EnvLe.nil)))) (Keeps.cons (by exact Eq.trans (b := .raw _) rfl rfl) (Keeps.cons (by exact Eq.trans (b := .sl _ _ _) rfl rfl) (Keeps.cons (by exact Eq.trans (b := .raw _) rfl rfl) (Keeps.cons (by exact Eq.trans (b := .raw _) rfl rfl) (Keeps.nil))))) (by show L.HSub _ (.tail b109 o109 c109 :: gW b15 W2 :: .cells b9 35 (vxL (lastO (out ++ [v]))) :: gC g ma mb n :: gA ma m :: kb :: (ownA An2 ten2 xsn2 ++ (ownA (some bA) ter2 xsD ++ Rf))); rw [last_snoc]; exact (by repeat (exact HSub.refl _))) ?_ ?_
                  · refine ⟨hrun.snoc hpick, hKI.next hvR (by rw [herase]; exact List.filter_sublist.nodup hKI.nd) (fun y => by rw [herase, List.mem_filter, decide_eq_true_eq]), owD, own2⟩
                  · (simp; omega)
end Go.Proofs.YtolpkeajokjbjaaDoor
namespace Go.Proofs.YtolpkeajokjbjaaDoor
open Go.RowKit Go.L Go.Lib
attribute [local irreducible] LL LW LO LP LA
def rdyF (nx : Vx → List Vx) (S out : List Vx) : List Vx := S.filter fun v => decide (v ∉ out) && S.all fun u => !decide (v ∈ nx u) || decide (u ∈ out)
def ordF (nx : Vx → List Vx) (S : List Vx) : Nat → List Vx → List Vx
  | 0, out => out
  | n + 1, out => match (if ((rdyF nx S out).filter fun v => decide (v ∈ nx (lastO out))).isEmpty then rdyF nx S out else (rdyF nx S out).filter fun v => decide (v ∈ nx (lastO out))) with
    | [] => out
    | a :: l => ordF nx S n (out ++ [minV a l])
def orderG (r : Rg) : List Vx := ordF (nxE (Er r)) (idsG r.L) (idsG r.L).length []
theorem rdyF_mem {nx : Vx → List Vx} {S out : List Vx} {v : Vx} : v ∈ rdyF nx S out ↔ Rdy (fun u v => v ∈ nx u) (fun v => v ∈ S) out v := by
  unfold rdyF Rdy
  rw [List.mem_filter, Bool.and_eq_true, decide_eq_true_eq, List.all_eq_true]
  refine and_congr_right fun _ => and_congr_right fun _ => forall_congr' fun u => forall_congr' fun _ => ?_
  rw [Bool.or_eq_true, Bool.not_eq_true', decide_eq_false_iff_not, decide_eq_true_eq]
  exact ⟨fun h e => h.elim (fun c => absurd e c) id, fun h => Classical.byCases (fun e => .inr (h e)) .inl⟩
theorem ordF_ord {nx : Vx → List Vx} {S : List Vx} : ∀ (n : Nat) (out : List Vx), S.length ≤ n + out.length → Run (fun u v => v ∈ nx u) (fun v => v ∈ S) out → Ord (fun u v => v ∈ nx u) (fun v => v ∈ S) (ordF nx S n out)
  | 0, out, h, hr => show Ord _ _ out from ⟨hr, fun v hv => by
    have := nodup_len (List.nodup_cons.2 ⟨hv.2.1, hr.nodup⟩) (l := S) fun x hx => by
      rcases List.mem_cons.1 hx with e | e
      · rw [e]; exact hv.1
      · exact hr.mem x e
    rw [List.length_cons] at this
    omega⟩
  | n + 1, out, h, hr => by
    have hN : ∀ v, Nea (fun u v => v ∈ nx u) (fun v => v ∈ S) out v ↔ v ∈ (rdyF nx S out).filter fun v => decide (v ∈ nx (lastO out)) := fun v => by
      unfold Nea
      rw [List.mem_filter, rdyF_mem, decide_eq_true_eq]
    rw [ordF]
    cases hc : ((rdyF nx S out).filter fun v => decide (v ∈ nx (lastO out))) with
    | nil =>
      rw [hc] at hN
      simp only [List.isEmpty_nil, if_true]
      have hno : ¬ ∃ w, Nea (fun u v => v ∈ nx u) (fun v => v ∈ S) out w := fun ⟨w, hw⟩ => by have := (hN w).1 hw; cases this
      cases hq : rdyF nx S out with
      | nil => exact ⟨hr, fun v hv => by have := rdyF_mem.2 hv; rw [hq] at this; cases this⟩
      | cons a l => exact ordF_ord n _ (by rw [List.length_append, List.length_singleton]; omega) (hr.snoc ⟨fun c => absurd c hno, fun _ => minV_least fun v => by rw [← rdyF_mem, hq]⟩)
    | cons a l =>
      rw [hc] at hN
      rw [if_neg (by simp)]
      exact ordF_ord n _ (by rw [List.length_append, List.length_singleton]; omega) (hr.snoc ⟨fun _ => minV_least hN, fun c => absurd ⟨a, (hN a).2 (by simp)⟩ c⟩)
theorem orderG_ord (r : Rg) : OrdR r (orderG r) := ordF_ord _ [] (by simp) .nil
theorem OrdR.eq {r : Rg} {out : List Vx} (h : OrdR r out) : out = orderG r := Ord.uniq h (orderG_ord r)
structure Sh where
  v : Vx
  text : List UInt8
  kills : Nat
deriving DecidableEq
abbrev shL (x : Sh) : List LV := vxL x.v ++ [Str x.text, i64 (x.kills : Nat)]
abbrev shs (l : List Sh) : List (List LV) := l.map shL
theorem sh_len (x : Sh) : (shL x).length = 35 := by simp [x.v.p.2]
theorem sh_ne (x : Sh) : shL x ≠ [] := fun c => by have := sh_len x; rw [c] at this; cases this
theorem shs_at {l : List Sh} {i : Nat} {x : Sh} (h : l[i]? = some x) : (shs l)[(i : Int).toNat]? = some (shL x) := by
  rw [Int.toNat_natCast, List.getElem?_map, h]; rfl
theorem shs_app (a b : List Sh) : shs a ++ shs b = shs (a ++ b) := (List.map_append (f := shL) (l₁ := a) (l₂ := b)).symm
theorem sh_v (x : Sh) : ((shL x).drop 0).take 33 = vxL x.v := by rw [List.drop_zero, List.take_left' (vxL_len x.v)]
theorem sh_text (x : Sh) : (shL x)[33]? = some (Str x.text) := by
  rw [List.getElem?_append_right (by rw [vxL_len]; decide), vxL_len]; rfl
theorem sh_kills (x : Sh) : (shL x)[34]? = some (i64 (x.kills : Nat)) := by
  rw [List.getElem?_append_right (by rw [vxL_len]; decide), vxL_len]; rfl
def shG (r : Rg) (v : Vx) : Sh := ⟨v, textG r.L v, (killsOf r.D v).length⟩
def shownG (r : Rg) : List Sh := (orderG r).map (shG r)
theorem laid_sh {a zs : List LV} {b c : LV} (ha : a.length = 33) (hz : zs.length = 35) : laid (#[(0, 33), (33, 1), (34, 1)][·]?) zs [(0, a), (1, [b]), (2, [c])] = some (a ++ [b, c]) := by
  have h1 : putAt zs 0 a = a ++ zs.drop 33 := by simp [putAt, ha]
  have h2 : putAt (a ++ zs.drop 33) 33 [b] = a ++ ([b] ++ zs.drop 34) := by
    unfold putAt
    rw [List.take_left' ha, List.length_singleton, ← List.drop_drop (i := 1) (j := 33), List.drop_left' ha, List.drop_drop, List.append_assoc]
  have h3 : putAt (a ++ ([b] ++ zs.drop 34)) 34 [c] = a ++ [b, c] := by
    unfold putAt
    rw [show a ++ ([b] ++ zs.drop 34) = (a ++ [b]) ++ zs.drop 34 by simp, List.take_left' (by simp [ha]), List.drop_of_length_le (by simp [ha, hz])]
    simp
  have l1 : (a ++ zs.drop 33).length = 35 := by simp [ha, hz]
  have l2 : (a ++ ([b] ++ zs.drop 34)).length = 35 := by simp [ha, hz]
  show (bif (Nat.beq a.length 33 && Nat.ble (0 + a.length) zs.length) then laid _ (putAt zs 0 a) [(1, [b]), (2, [c])] else none) = _
  rw [ha, hz, h1]
  show (bif (Nat.beq 1 1 && Nat.ble (33 + 1) (a ++ zs.drop 33).length) then laid _ (putAt (a ++ zs.drop 33) 33 [b]) [(2, [c])] else none) = _
  rw [l1, h2]
  show (bif (Nat.beq 1 1 && Nat.ble (34 + 1) (a ++ ([b] ++ zs.drop 34)).length) then laid _ (putAt (a ++ ([b] ++ zs.drop 34)) 34 [c]) [] else none) = _
  rw [l2, h3]
  rfl
theorem order_len {r : Rg} (ho : Ok r) : (orderG r).length ≤ 512 := Nat.le_trans (run_len ho (orderG_ord r).1) ho.len
abbrev Shs (l : List Sh) (k : Cap) : LV := .sl 35 (shs l) k
set_option maxHeartbeats 2000000 in
set_option maxRecDepth 100000 in
theorem shown_calls (g ma mb : Nat) (n : Int) (m : At) (q : Ps) (r : Rg) (hrel : Rel m q n r) (ho : Ok r) (hD : r.D.length < 900000) : LCalls Tryd.prog 18 [pt g] [gC g ma mb n, gA ma m, kb] (fun x H' => x = Shs (shownG r) .unk ∧ H' = [gC g ma mb n, gA ma m, kb]) := by
  have hord := order_calls g ma mb n m q r hrel ho
  have hol := order_len ho
  have hord2 : LCalls Tryd.prog 39 [pt g] [gC g ma mb n, gA ma m, kb] (fun x H' => x = Vxs (orderG r) .unk ∧ H' = [gC g ma mb n, gA ma m, kb]) := hord.mono fun x H' ⟨out, h1, h2, h3⟩ => ⟨by rw [← h3.eq]; exact h1, h2⟩
  obtain ⟨O, hO⟩ : ∃ O, O = orderG r := ⟨_, rfl⟩
  have hS : shownG r = O.map (shG r) := by unfold shownG; rw [hO]
  rw [← hO] at hord2 hol
  rw [hS]
  refine LCalls.of Tryd.func18 rfl Tryd.ntmps18 Tryd.results18 rfl (fun Rf => ?_)
  refine LW.seq ?_
  refine LW.region ?_
  refine X.u (LU.assign (Is.nil 35)) rfl ?_
  refine LL.nil (after_code ?_)
  refine LW.seq ?_
  refine LW.seq ?_
  refine LW.region ?_
  refine X.u (LU.moveR Is.rfl') rfl ?_
  refine X.u (LU.call1 0 rfl (none_calls g ma mb n) Tryd.func33 rfl rfl (Opds.cons Is.rfl' Opds.nil)) rfl ?_
  refine LL.nil (after_code ?_)
  refine X.condF rfl ?_ ?_
  · rfl
  refine LW.skip (after_code ?_)
  refine LW.seq ?_
  refine LW.region ?_
  refine X.u (LU.assign (Is.nil 35)) rfl ?_
  refine LL.nil (after_code ?_)
  refine LW.seq ?_
  refine LW.seq ?_
  refine LW.region ?_
  refine X.u (LU.moveR Is.rfl') rfl ?_
  refine X.u (LU.callP (List.Perm.refl _) (hord2) Tryd.func39 rfl rfl (Opds.cons Is.rfl' Opds.nil)) rfl ?_
  refine X.u (LU.lenN Tryd.underlying26 Is.rfl' (by (simp only [Option.getD_some, Option.getD_none, byteEls_length, intEls_length, List.length_append, List.length_cons, List.length_nil, List.length_map, List.length_drop, List.length_take, Int.toNat_natCast]; rfl))) rfl ?_
  refine X.u (LU.moveR Is.rfl') rfl ?_
  refine LL.nil (after_code ?_)
  refine LW.block ?_
  refine X.wweak (t := 3) (v := Shs [] (.tok 0 0 0)) (Is.full_tok 0 0) ?_
  refine X.wghost (HSub.tail0 0 0 0 (Nat.le_refl _) _) ?_
  refine X.loopK (α := Nat × Nat × Nat × Nat) (fun ⟨i, b, o, c⟩ => [(12, i64 i), (3, Shs ((O.take i).map (shG r)) (.tok b o c))]) [0, 2, 10, 11] (fun ⟨i, b, o, c⟩ => .tail b o c :: gC g ma mb n :: gA ma m :: kb :: Rf) (fun ⟨i, b, o, c⟩ => i ≤ O.length) (fun ⟨i, b, o, c⟩ => O.length - i) ((0, 0, 0, 0)) (EnvLe.cons (by rfl) (EnvLe.cons (by rfl) (EnvLe.nil))) (by repeat (exact HSub.refl _)) ?_ ?_
  · exact Nat.zero_le _
  · rintro ⟨i, b, o, c⟩ hI
    refine LW.seq ?_
    refine LW.region ?_
    refine X.u (LU.lss Is.rfl' Is.rfl') rfl ?_
    refine LL.nil (after_code ?_)
    refine LW.seq ?_
    refine X.cond rfl (fun h5 => ?_) (fun h5 => ?_)
    · try have h5 := of_decide_eq_true h5
      refine LW.skip (after_code ?_)
      refine LW.seq ?_
      refine LW.block ?_
      refine LW.seq ?_
      obtain ⟨v, hv⟩ := at_lt (show i < O.length by omega)
      have hvl := vxL_len v
      have hv32 : v.p.1.length = 32 := v.p.2
      obtain ⟨x, hx⟩ : ∃ x, x = atG m v := ⟨_, rfl⟩
      have hxi : Is ((lookM (encM lnE m) v).getD (.raw z73)) (lnE x) := by rw [hx]; exact at_is m v
      have hxt : x.text = textG r.L v := by rw [hx]; exact hrel.text v
      have hxk : x.kills = killsOf r.D v := by rw [hx]; exact hrel.kills v
      have hxl : x.kills.length < 900000 := by rw [hxk]; have := kills_len r.D v; omega
      have hshl := sh_len (shG r v)
      have htk : ((O.take i).map (shG r)).length = i := by rw [List.length_map, List.length_take]; omega
      refine LW.region ?_
      refine X.u (LU.at Tryd.underlying26 ⟨Tryd.sizeOf35, Tryd.isAgg35⟩ Is.rfl' Is.rfl' (by omega) (vxs_at hv) (vx_ne v)) rfl ?_
      refine X.u (LU.weak (LU.load ⟨Tryd.sizeOf35, Tryd.isAgg35⟩ Is.rfl' (by assumption) (Part.whole (by assumption))) (Is.of (y := .agg (vxL v)) (rfl))) rfl ?_
      refine X.act (X.alloc rfl Tryd.zeroValue35 (by exact Cells.rawagg (by decide)) (fun b5 => ?_))
      refine X.act (X.store 0 rfl Tryd.sizeOf35 Is.rfl' Is.rfl' (by exact Cells.agg) (by assumption) (by exact Nat.le_of_ble_eq_true rfl) ?_)
      refine LL.nil (after_code ?_)
      refine LW.seq ?_
      refine X.wcells (ys := vxL v) (putAt_all (by rw [hvl]; rfl)) ?_
      refine LW.invM (m := 7) (γ := Nat × Nat) [(0, 16), (1, 17), (2, 18), (3, 19), (4, 20), (5, 21), (6, 6)] (fun g_ d => match g_ with | ⟨b_, z_⟩ => match d with | 16 => pt g | 17 => pt g | 18 => pt g | 19 => .raw (.map (some ma)) | 20 => .agg (vxL v) | 21 => lnE x | 6 => pt b_ | _ => .any) (fun g_ f => match g_ with | ⟨b_, z_⟩ => cond (f 6) (.cells b_ 73 (raws z73.cells.toList)) (.tail 0 0 0) :: .tail b o c :: .cells b5 35 (vxL v) :: gC g ma mb n :: gA ma m :: kb :: Rf) (0, 0) rfl (by kernel_rfl) rfl rfl ((HSub.trans (by repeat (first | exact HSub.refl _ | refine HSub.pick 1 rfl ?_)) (HSub.tail0 0 0 0 (Nat.le_refl _) _))) ?_ ?_
      · intro i hi f g_ hfi hdir hdown
        obtain ⟨b_, z_⟩ := g_
        have hc : i = 0 ∨ i = 1 ∨ i = 2 ∨ i = 3 ∨ i = 4 ∨ i = 5 ∨ i = 6 := by omega
        rcases hc with rfl | rfl | rfl | rfl | rfl | rfl | rfl
        · refine ⟨_, rfl, ?_⟩
          refine A.u (LU.moveR Is.rfl') rfl ?_
          refine ⟨⟨b_, z_⟩, Weaker.mk' ?_ (HSub.refl _)⟩
          refine env_back0 (envS_hit (sl := [(0, 16), (1, 17), (2, 18), (3, 19), (4, 20), (5, 21), (6, 6)]) (j := 0) (d := 16) rfl (fun _ _ h => h))  (envS_next ?_)
          · intro p hp hne; simp only [List.mem_cons, List.not_mem_nil, or_false] at hp; rcases hp with rfl | rfl | rfl | rfl | rfl | rfl | rfl <;> first | exact absurd rfl hne | exact ⟨rfl, rfl⟩
        · have d0 := hdir 0 (List.mem_of_elem_eq_true (by kernel_rfl))
          refine ⟨_, rfl, ?_⟩
          refine LP.weak (t := 16) (v := pt g) (envS_is (j := 0) rfl d0) ?_
          refine A.u (LU.nilCheck Is.rfl') rfl ?_
          refine ⟨⟨b_, z_⟩, Weaker.mk' ?_ (HSub.refl _)⟩
          refine env_back1 (envS_hit (sl := [(0, 16), (1, 17), (2, 18), (3, 19), (4, 20), (5, 21), (6, 6)]) (j := 1) (d := 17) rfl (fun _ _ h => h)) (envS_hit (sl := [(0, 16), (1, 17), (2, 18), (3, 19), (4, 20), (5, 21), (6, 6)]) (j := 0) (d := 16) rfl (fun _ _ h => h)) (envS_next ?_)
          · intro p hp hne; simp only [List.mem_cons, List.not_mem_nil, or_false] at hp; rcases hp with rfl | rfl | rfl | rfl | rfl | rfl | rfl <;> first | exact absurd rfl hne | exact ⟨rfl, rfl⟩
        · have d1 := hdir 1 (List.mem_of_elem_eq_true (by kernel_rfl))
          refine ⟨_, rfl, ?_⟩
          refine LP.weak (t := 17) (v := pt g) (envS_is (j := 1) rfl d1) ?_
          refine A.u (LU.fieldO Tryd.underlying68 rfl Tryd.sizeOf65 (by decide) Is.rfl') rfl ?_
          refine ⟨⟨b_, z_⟩, Weaker.mk' ?_ (HSub.refl _)⟩
          refine env_back1 (envS_hit (sl := [(0, 16), (1, 17), (2, 18), (3, 19), (4, 20), (5, 21), (6, 6)]) (j := 2) (d := 18) rfl (fun _ _ h => h)) (envS_hit (sl := [(0, 16), (1, 17), (2, 18), (3, 19), (4, 20), (5, 21), (6, 6)]) (j := 1) (d := 17) rfl (fun _ _ h => h)) (envS_next ?_)
          · intro p hp hne; simp only [List.mem_cons, List.not_mem_nil, or_false] at hp; rcases hp with rfl | rfl | rfl | rfl | rfl | rfl | rfl <;> first | exact absurd rfl hne | exact ⟨rfl, rfl⟩
        · have d2 := hdir 2 (List.mem_of_elem_eq_true (by kernel_rfl))
          refine ⟨_, rfl, ?_⟩
          refine LP.weak (t := 18) (v := pt g) (envS_is (j := 2) rfl d2) ?_
          refine A.u (LU.loadO 3 rfl ⟨Tryd.sizeOf65, Tryd.isAgg65⟩ Is.rfl' (Part.one rfl)) rfl ?_
          refine ⟨⟨b_, z_⟩, Weaker.mk' ?_ (HSub.refl _)⟩
          refine env_back1 (envS_hit (sl := [(0, 16), (1, 17), (2, 18), (3, 19), (4, 20), (5, 21), (6, 6)]) (j := 3) (d := 19) rfl (fun _ _ h => h)) (envS_hit (sl := [(0, 16), (1, 17), (2, 18), (3, 19), (4, 20), (5, 21), (6, 6)]) (j := 2) (d := 18) rfl (fun _ _ h => h)) (envS_next ?_)
          · intro p hp hne; simp only [List.mem_cons, List.not_mem_nil, or_false] at hp; rcases hp with rfl | rfl | rfl | rfl | rfl | rfl | rfl <;> first | exact absurd rfl hne | exact ⟨rfl, rfl⟩
        · refine ⟨_, rfl, ?_⟩
          refine A.u (LU.loadO 2 rfl ⟨Tryd.sizeOf35, Tryd.isAgg35⟩ Is.rfl' (Part.whole (by assumption))) rfl ?_
          refine ⟨⟨b_, z_⟩, Weaker.mk' ?_ (HSub.refl _)⟩
          refine env_back0 (envS_hit (sl := [(0, 16), (1, 17), (2, 18), (3, 19), (4, 20), (5, 21), (6, 6)]) (j := 4) (d := 20) rfl (fun _ _ h => h))  (envS_next ?_)
          · intro p hp hne; simp only [List.mem_cons, List.not_mem_nil, or_false] at hp; rcases hp with rfl | rfl | rfl | rfl | rfl | rfl | rfl <;> first | exact absurd rfl hne | exact ⟨rfl, rfl⟩
        · have d3 := hdir 3 (List.mem_of_elem_eq_true (by kernel_rfl))
          have d4 := hdir 4 (List.mem_of_elem_eq_true (by kernel_rfl))
          refine ⟨_, rfl, ?_⟩
          refine LP.weak (t := 19) (v := .raw (.map (some ma))) (envS_is (j := 3) rfl d3) ?_
          refine LP.weak (t := 20) (v := .agg (vxL v)) (envS_is (j := 4) rfl d4) ?_
          refine A.u (LU.weak (LU.lookup 4 (KeyOk.vx vxty) rfl Tryd.underlying65 Tryd.zeroValue73 Is.rfl' (by exact Is.vx _)) (hxi)) rfl ?_
          refine ⟨⟨b_, z_⟩, Weaker.mk' ?_ (HSub.refl _)⟩
          refine env_back2 (envS_hit (sl := [(0, 16), (1, 17), (2, 18), (3, 19), (4, 20), (5, 21), (6, 6)]) (j := 5) (d := 21) rfl (fun _ _ h => h)) (envS_hit (sl := [(0, 16), (1, 17), (2, 18), (3, 19), (4, 20), (5, 21), (6, 6)]) (j := 4) (d := 20) rfl (fun _ _ h => h)) (envS_hit (sl := [(0, 16), (1, 17), (2, 18), (3, 19), (4, 20), (5, 21), (6, 6)]) (j := 3) (d := 19) rfl (fun _ _ h => h)) (envS_next ?_)
          · intro p hp hne; simp only [List.mem_cons, List.not_mem_nil, or_false] at hp; rcases hp with rfl | rfl | rfl | rfl | rfl | rfl | rfl <;> first | exact absurd rfl hne | exact ⟨rfl, rfl⟩
        · refine ⟨_, rfl, ?_⟩
          refine A.act (X.alloc rfl Tryd.zeroValue73 (by exact Cells.rawagg (by decide)) (fun b6 => ?_))
          refine ⟨(b6, 0), Weaker.mk' ?_ (by show L.HSub (_ :: cond (f 6) _ (.tail 0 0 0) :: _) _; rw [hfi]; exact HSub.cons (HSub.drop (HSub.refl _)))⟩
          refine env_back0 (envS_hit (sl := [(0, 16), (1, 17), (2, 18), (3, 19), (4, 20), (5, 21), (6, 6)]) (j := 6) (d := 6) rfl (fun _ _ h => h))  (envS_next ?_)
          · intro p hp hne; simp only [List.mem_cons, List.not_mem_nil, or_false] at hp; rcases hp with rfl | rfl | rfl | rfl | rfl | rfl | rfl <;> first | exact absurd rfl hne | exact ⟨rfl, rfl⟩
      · intro g_ f hf_
        obtain ⟨b_, z_⟩ := g_
        refine X.ghost (H' := .cells b_ 73 (raws z73.cells.toList) :: .tail b o c :: .cells b5 35 (vxL v) :: gC g ma mb n :: gA ma m :: kb :: Rf) (by show L.HSub (cond (f 6) _ (.tail 0 0 0) :: _) _; rw [hf_ 6 (by omega)]; exact HSub.refl _) ?_
        refine X.act (X.store 0 rfl Tryd.sizeOf73 Is.rfl' Is.rfl' (by exact Cells.agg) (by (simp; done)) (by exact Nat.le_of_ble_eq_true rfl) ?_)
        refine LL.nil (after_code ?_)
        refine X.wcells (ys := lnL x) rfl ?_
        refine X.wghost (H' := .tail b o c :: .cells b_ 73 (lnL x) :: .cells b5 35 (vxL v) :: gC g ma mb n :: gA ma m :: kb :: Rf) (by repeat (first | exact HSub.refl _ | refine HSub.pick 1 rfl ?_)) ?_
        refine LW.region ?_
        refine X.u (LU.moveS Is.rfl') rfl ?_
        refine X.u (LU.loadO 2 rfl ⟨Tryd.sizeOf35, Tryd.isAgg35⟩ Is.rfl' (Part.whole (by assumption))) rfl ?_
        refine X.u (LU.fieldO Tryd.underlying73 rfl Tryd.sizeOf9 (by decide) Is.rfl') rfl ?_
        refine X.u (LU.loadO 1 rfl ⟨Tryd.sizeOf9, Tryd.isAgg9⟩ Is.rfl' (Part.one rfl)) rfl ?_
        refine X.u (LU.fieldO Tryd.underlying73 rfl Tryd.sizeOf71 (by decide) Is.rfl') rfl ?_
        refine X.u (LU.loadO 1 rfl ⟨Tryd.sizeOf71, Tryd.isAgg71⟩ Is.rfl' (Part.one rfl)) rfl ?_
        refine X.u (LU.weak (LU.lenN Tryd.underlying71 Is.rfl' (by (simp only [Option.getD_some, Option.getD_none, byteEls_length, intEls_length, List.length_append, List.length_cons, List.length_nil, List.length_map, List.length_drop, List.length_take, Int.toNat_natCast]; rfl))) (Is.of (y := i64 ((killsOf r.D v).length : Nat)) (congrArg i64 (by rw [← hxk]; try first | rfl | simp)))) rfl ?_
        refine X.u (LU.weak (LU.build (places := #[(0, 33), (33, 1), (34, 1)]) Tryd.underlying49 Tryd.zeroValue49 (ones rfl) (by intro w; simp [Tryd.sizeOf3, Tryd.sizeOf35, Tryd.sizeOf9]) (Parts.cons Is.rfl' (by exact Cells.agg) (Parts.cons Is.rfl' (by exact Cells.raw rfl) (Parts.cons Is.rfl' (by exact Cells.raw rfl) Parts.nil))) (laid_sh hvl rfl)) (Is.of (y := .agg (shL (shG r v))) (congrArg LV.agg (by rw [hxt]; rfl)))) rfl ?_
        refine X.u (LU.lits Tryd.underlying45 Tryd.sizeOf49 Tryd.zeroValue49 (ones rfl) rfl (by decide) (by decide) (Elems.cons Is.rfl' (by exact Cells.agg) Elems.nil) (by (simp; assumption)) rfl) rfl ?_
        refine X.act (X.append 0 rfl rfl Tryd.underlying45 (El.of (P := Tryd.prog) (z := (.agg #[(.int .u8 0), (.int .u8 0), (.int .u8 0), (.int .u8 0), (.int .u8 0), (.int .u8 0), (.int .u8 0), (.int .u8 0), (.int .u8 0), (.int .u8 0), (.int .u8 0), (.int .u8 0), (.int .u8 0), (.int .u8 0), (.int .u8 0), (.int .u8 0), (.int .u8 0), (.int .u8 0), (.int .u8 0), (.int .u8 0), (.int .u8 0), (.int .u8 0), (.int .u8 0), (.int .u8 0), (.int .u8 0), (.int .u8 0), (.int .u8 0), (.int .u8 0), (.int .u8 0), (.int .u8 0), (.int .u8 0), (.int .u8 0), (.int .i64 0), (.string ByteArray.empty), (.int .i64 0)])) (size := 35) (bytes := 64) rfl rfl rfl) Is.rfl' Is.rfl' (SrcL.slice Tryd.underlying45 (by decide) (by intro e he; rw [List.mem_singleton.1 he]; exact sh_len _)) (by simp only [Option.getD_some, Option.getD_none, byteEls_length, intEls_length, List.length_append, List.length_cons, List.length_nil, List.length_map, List.length_drop, List.length_take, Int.toNat_natCast]; omega) (by simp only [Option.getD_some, Option.getD_none, byteEls_length, intEls_length, List.length_append, List.length_cons, List.length_nil, List.length_map, List.length_drop, List.length_take, Int.toNat_natCast]; omega) (fun b31 o31 c31 => X.weak (t := 31) (Is.of (y := Shs ((O.take (i + 1)).map (shG r)) (.tok b31 o31 c31)) (congrArg (fun z => LV.sl 35 z (.tok b31 o31 c31)) (by rw [take_snoc hv, List.map_append]; exact shs_app _ [shG r v]))) ?_))
        refine X.u (LU.assignS Is.rfl') rfl ?_
        refine LL.nil (after_blk (after_code ?_))
        refine LW.region ?_
        refine X.u (LU.addN Is.rfl' Is.rfl' (wrap_i64 (by omega) (by omega))) rfl ?_
        refine X.u (LU.moveR Is.rfl') rfl ?_
        refine LL.nil (after_rnd ?_)
        refine X.next ((i + 1, b31, o31, c31)) rfl (EnvLe.cons (by rfl) (EnvLe.cons (by rfl) (EnvLe.nil))) (Keeps.cons (by exact Eq.trans (b := .raw _) rfl rfl) (Keeps.cons (by exact Eq.trans (b := .sl _ _ _) rfl rfl) (Keeps.cons (by exact Eq.trans (b := .sl _ _ _) rfl rfl) (Keeps.cons (by exact Eq.trans (b := .raw _) rfl rfl) (Keeps.nil))))) (by repeat (first | exact HSub.refl _ | refine HSub.pick 0 rfl ?_ | refine HSub.pick 2 rfl ?_ | refine HSub.drop ?_)) ?_ ?_
        · omega
        · (simp; omega)
    · try have h5 := of_decide_eq_false h5
      refine LW.exit (exit_code (exit_rnd (exit_blk (after_code ?_))))
      refine LW.seq ?_
      refine LW.region ?_
      refine X.u (LU.moveS Is.rfl') rfl ?_
      refine X.u (LU.assignS Is.rfl') rfl ?_
      refine LL.nil (after_code ?_)
      refine LW.ret (after_end ?_)
      refine X.ret (H' := [gC g ma mb n, gA ma m, kb]) (Res.one (by exact IsS rfl)) (by repeat (first | exact HSub.refl _ | refine HSub.pick 1 rfl ?_ | refine HSub.drop ?_)) ?_
      exact ⟨by rw [List.take_of_length_le (by omega)], rfl⟩
end Go.Proofs.YtolpkeajokjbjaaDoor
namespace Go.Proofs.YtolpkeajokjbjaaDoor
open Go.RowKit Go.L Go.Lib
attribute [local irreducible] LL LW LO
def livF (l : List Sh) : List Sh := l.filter fun x => decide (x.kills = 0)
def textsG (r : Rg) : List (List UInt8) := (livF (shownG r)).map (·.text)
def liveG (r : Rg) : List Vx := (livF (shownG r)).map (·.v)
def conF (ah : Vx → Vx → Bool) : List Vx → Nat
  | [] => 0
  | v :: l => (l.filter fun w => !ah v w).length + conF ah l
def conflG (r : Rg) : Nat := conF (aheadG r) (liveG r)
theorem livF_snoc (l : List Sh) (x : Sh) : livF (l ++ [x]) = livF l ++ if x.kills = 0 then [x] else [] := by
  unfold livF
  rw [List.filter_append]
  congr 1
  by_cases c : x.kills = 0
  · simp [c]
  · simp [c]
theorem livF_len (l : List Sh) : (livF l).length ≤ l.length := List.length_filter_le _ _
theorem shown_len {r : Rg} (ho : Ok r) : (shownG r).length ≤ 512 := by unfold shownG; rw [List.length_map]; exact order_len ho
set_option maxHeartbeats 2000000 in
set_option maxRecDepth 100000 in
theorem text_calls (g ma mb : Nat) (n : Int) (m : At) (q : Ps) (r : Rg) (hrel : Rel m q n r) (ho : Ok r) (hD : r.D.length < 900000) : LCalls Tryd.prog 13 [pt g] [gC g ma mb n, gA ma m, kb] (fun x H' => x = .sl 1 (strsL (textsG r)) .unk ∧ H' = [gC g ma mb n, gA ma m, kb]) := by
  have hsc := shown_calls g ma mb n m q r hrel ho hD
  have hol := shown_len ho
  obtain ⟨O, hO⟩ : ∃ O, O = shownG r := ⟨_, rfl⟩
  have hS : textsG r = (livF O).map (·.text) := by unfold textsG; rw [hO]
  rw [← hO] at hsc hol
  rw [hS]
  refine LCalls.of Tryd.func13 rfl Tryd.ntmps13 Tryd.results13 rfl (fun Rf => ?_)
  refine LW.seq ?_
  refine LW.region ?_
  refine X.u (LU.assign (Is.nil 1)) rfl ?_
  refine LL.nil (after_code ?_)
  refine LW.seq ?_
  refine LW.region ?_
  refine X.u (LU.assign (Is.nil 1)) rfl ?_
  refine LL.nil (after_code ?_)
  refine LW.seq ?_
  refine LW.seq ?_
  refine LW.region ?_
  refine X.u (LU.moveR Is.rfl') rfl ?_
  refine X.u (LU.callP (List.Perm.refl _) (hsc) Tryd.func18 rfl rfl (Opds.cons Is.rfl' Opds.nil)) rfl ?_
  refine X.u (LU.lenN Tryd.underlying45 Is.rfl' (by (simp only [Option.getD_some, Option.getD_none, byteEls_length, intEls_length, List.length_append, List.length_cons, List.length_nil, List.length_map, List.length_drop, List.length_take, Int.toNat_natCast]; rfl))) rfl ?_
  refine X.u (LU.moveR Is.rfl') rfl ?_
  refine LL.nil (after_code ?_)
  refine LW.block ?_
  refine X.wweak (t := 3) (v := .sl 1 (strsL []) (.tok 0 0 0)) (Is.full_tok 0 0) ?_
  refine X.wghost (HSub.tail0 0 0 0 (Nat.le_refl _) _) ?_
  refine X.loopK (α := Nat × List (List UInt8) × Nat × Nat × Nat) (fun ⟨i, T, b, o, c⟩ => [(9, i64 i), (3, .sl 1 (strsL T) (.tok b o c))]) [2, 7, 8] (fun ⟨i, T, b, o, c⟩ => .tail b o c :: gC g ma mb n :: gA ma m :: kb :: Rf) (fun ⟨i, T, b, o, c⟩ => i ≤ O.length ∧ T = (livF (O.take i)).map (·.text)) (fun ⟨i, T, b, o, c⟩ => O.length - i) ((0, [], 0, 0, 0)) (EnvLe.cons (by rfl) (EnvLe.cons (by rfl) (EnvLe.nil))) (by repeat (exact HSub.refl _)) ?_ ?_
  · exact ⟨Nat.zero_le _, rfl⟩
  · rintro ⟨i, T, b, o, c⟩ hI
    obtain ⟨hi, hT⟩ := hI
    refine LW.seq ?_
    refine LW.region ?_
    refine X.u (LU.lss Is.rfl' Is.rfl') rfl ?_
    refine LL.nil (after_code ?_)
    refine LW.seq ?_
    refine X.cond rfl (fun h3 => ?_) (fun h3 => ?_)
    · try have h3 := of_decide_eq_true h3
      refine LW.skip (after_code ?_)
      refine LW.seq ?_
      refine LW.block ?_
      refine LW.seq ?_
      obtain ⟨x, hx⟩ := at_lt (show i < O.length by omega)
      have hxl := sh_len x
      have hv32 : x.v.p.1.length = 32 := x.v.p.2
      have htk : T.length ≤ i := by
        rw [hT, List.length_map]
        refine Nat.le_trans (livF_len _) ?_
        rw [List.length_take]; omega
      refine LW.region ?_
      refine X.u (LU.at Tryd.underlying45 ⟨Tryd.sizeOf49, Tryd.isAgg49⟩ Is.rfl' Is.rfl' (by omega) (shs_at hx) (sh_ne x)) rfl ?_
      refine X.u (LU.weak (LU.load ⟨Tryd.sizeOf49, Tryd.isAgg49⟩ Is.rfl' (by assumption) (Part.whole (by assumption))) (Is.of (y := .agg (shL x)) (rfl))) rfl ?_
      refine X.act (X.alloc rfl Tryd.zeroValue49 (by exact Cells.rawagg (by decide)) (fun b5 => ?_))
      refine X.act (X.store 0 rfl Tryd.sizeOf49 Is.rfl' Is.rfl' (by exact Cells.agg) (by assumption) (by exact Nat.le_of_ble_eq_true rfl) ?_)
      refine LL.nil (after_code ?_)
      refine LW.seq ?_
      refine X.wcells (ys := shL x) (putAt_all (by rw [hxl]; rfl)) ?_
      refine X.wghost (H' := .tail b o c :: .cells b5 49 (shL x) :: gC g ma mb n :: gA ma m :: kb :: Rf) (by repeat (first | exact HSub.refl _ | refine HSub.pick 1 rfl ?_)) ?_
      refine LW.region ?_
      refine X.u (LU.fieldO Tryd.underlying49 rfl Tryd.sizeOf3 (by decide) Is.rfl') rfl ?_
      refine X.u (LU.loadO 1 rfl ⟨Tryd.sizeOf3, Tryd.isAgg3⟩ Is.rfl' (Part.one ((show (shL x)[34]? = some (i64 (x.kills : Nat)) from sh_kills x)))) rfl ?_
      refine X.u (LU.eql Is.rfl' Is.rfl') rfl ?_
      refine LL.nil (after_code ?_)
      refine X.cond rfl (fun h5 => ?_) (fun h5 => ?_)
      · have h5 : x.kills = 0 := by simp at h5; omega
        have hz0 : (0 : Nat) = 0 := rfl
        refine LW.region ?_
        refine X.u (LU.moveS Is.rfl') rfl ?_
        refine X.u (LU.fieldO Tryd.underlying49 rfl Tryd.sizeOf9 (by decide) Is.rfl') rfl ?_
        refine X.u (LU.loadO 1 rfl ⟨Tryd.sizeOf9, Tryd.isAgg9⟩ Is.rfl' (Part.one ((show (shL x)[33]? = some (Str x.text) from sh_text x)))) rfl ?_
        refine X.u (LU.lits Tryd.underlying25 Tryd.sizeOf9 Tryd.zeroValue9 (ones rfl) rfl (by decide) (by decide) (Elems.cons Is.rfl' (by exact Cells.raw rfl) Elems.nil) (by (simp; done)) rfl) rfl ?_
        refine X.act (X.append 0 rfl rfl Tryd.underlying25 (El.of (P := Tryd.prog) (z := (.string ByteArray.empty)) (size := 1) (bytes := 16) rfl rfl rfl) Is.rfl' Is.rfl' (SrcL.slice Tryd.underlying25 (by decide) (by (intro e he; simp [chunks] at he; simp [he]; done))) (by simp only [Option.getD_some, Option.getD_none, byteEls_length, intEls_length, List.length_append, List.length_cons, List.length_nil, List.length_map, List.length_drop, List.length_take, Int.toNat_natCast]; omega) (by simp only [Option.getD_some, Option.getD_none, byteEls_length, intEls_length, List.length_append, List.length_cons, List.length_nil, List.length_map, List.length_drop, List.length_take, Int.toNat_natCast]; omega) (fun b20 o20 c20 => X.weak (t := 20) (Is.of (y := .sl 1 (strsL (T ++ [x.text])) (.tok b20 o20 c20)) (congrArg (fun z => LV.sl 1 z (.tok b20 o20 c20)) (by simp))) ?_))
        refine X.u (LU.assignS Is.rfl') rfl ?_
        refine LL.nil (after_blk (after_code ?_))
        refine LW.region ?_
        refine X.u (LU.addN Is.rfl' Is.rfl' (wrap_i64 (by omega) (by omega))) rfl ?_
        refine X.u (LU.moveR Is.rfl') rfl ?_
        refine LL.nil (after_rnd ?_)
        refine X.next ((i + 1, T ++ [x.text], b20, o20, c20)) rfl (EnvLe.cons (by rfl) (EnvLe.cons (by rfl) (EnvLe.nil))) (Keeps.cons (by exact Eq.trans (b := .sl _ _ _) rfl rfl) (Keeps.cons (by exact Eq.trans (b := .sl _ _ _) rfl rfl) (Keeps.cons (by exact Eq.trans (b := .raw _) rfl rfl) (Keeps.nil)))) (by repeat (first | exact HSub.refl _ | refine HSub.pick 0 rfl ?_ | refine HSub.pick 1 rfl ?_ | refine HSub.drop ?_)) ?_ ?_
        · exact ⟨by omega, by rw [take_snoc hx, livF_snoc, if_pos h5, List.map_append, ← hT]; rfl⟩
        · (simp; omega)
      · have h5 : ¬ x.kills = 0 := by simp at h5; omega
        have hz0 : (0 : Nat) = 0 := rfl
        refine LW.skip (after_blk (after_code ?_))
        refine LW.region ?_
        refine X.u (LU.addN Is.rfl' Is.rfl' (wrap_i64 (by omega) (by omega))) rfl ?_
        refine X.u (LU.moveR Is.rfl') rfl ?_
        refine LL.nil (after_rnd ?_)
        refine X.next ((i + 1, T, b, o, c)) rfl (EnvLe.cons (by rfl) (EnvLe.cons (by rfl) (EnvLe.nil))) (Keeps.cons (by exact Eq.trans (b := .sl _ _ _) rfl rfl) (Keeps.cons (by exact Eq.trans (b := .sl _ _ _) rfl rfl) (Keeps.cons (by exact Eq.trans (b := .raw _) rfl rfl) (Keeps.nil)))) (by repeat (first | exact HSub.refl _ | refine HSub.pick 0 rfl ?_ | refine HSub.pick 1 rfl ?_ | refine HSub.drop ?_)) ?_ ?_
        · exact ⟨by omega, by rw [take_snoc hx, livF_snoc, if_neg h5, List.append_nil, hT]⟩
        · (simp; omega)
    · try have h3 := of_decide_eq_false h3
      refine LW.exit (exit_code (exit_rnd (exit_blk (after_code ?_))))
      refine LW.seq ?_
      refine LW.region ?_
      refine X.u (LU.moveS Is.rfl') rfl ?_
      refine X.u (LU.assignS Is.rfl') rfl ?_
      refine LL.nil (after_code ?_)
      refine LW.ret (after_end ?_)
      refine X.ret (H' := [gC g ma mb n, gA ma m, kb]) (Res.one (by exact IsS rfl)) (by repeat (first | exact HSub.refl _ | refine HSub.pick 1 rfl ?_ | refine HSub.drop ?_)) ?_
      exact ⟨by rw [hT, List.take_of_length_le (by omega)], rfl⟩
theorem conF_le (ah : Vx → Vx → Bool) : ∀ l : List Vx, conF ah l ≤ l.length * l.length
  | [] => Nat.le_refl _
  | v :: l => by
    have h1 := List.length_filter_le (fun w => !ah v w) l
    have h2 := conF_le ah l
    rw [conF, List.length_cons, Nat.succ_mul, Nat.mul_succ]
    omega
theorem ahead_rel (g ma mb : Nat) (n : Int) (m : At) (q : Ps) (r : Rg) (hrel : Rel m q n r) (ho : Ok r) (a b : Vx) : LCalls Tryd.prog 21 [pt g, .agg (vxL a), .agg (vxL b)] [gC g ma mb n, gA ma m] (fun x H' => x = bl (aheadG r a b) ∧ H' = [gC g ma mb n, gA ma m]) :=
  ahead_calls g ma mb n m a b (aheadG r a b) (hrel.alln ho) (fun v => Nat.lt_of_le_of_lt (hrel.sz ho v).1 (by decide)) (by
    rw [hrel.has, hrel.has, hrel.nx, ho.ahead]
    exact ⟨fun e => ⟨(ho.hasR e).1, (ho.hasR e).2, e⟩, fun e => e.2.2⟩)
set_option maxHeartbeats 2000000 in
set_option maxRecDepth 100000 in
theorem conflicts_calls (g ma mb : Nat) (n : Int) (m : At) (q : Ps) (r : Rg) (hrel : Rel m q n r) (ho : Ok r) (hD : r.D.length < 900000) : LCalls Tryd.prog 14 [pt g] [gC g ma mb n, gA ma m, kb] (fun x H' => x = i64 (conflG r : Nat) ∧ H' = [gC g ma mb n, gA ma m, kb]) := by
  have hsc := shown_calls g ma mb n m q r hrel ho hD
  have hol := shown_len ho
  obtain ⟨O, hO⟩ : ∃ O, O = shownG r := ⟨_, rfl⟩
  obtain ⟨ah, hah⟩ : ∃ ah, ah = aheadG r := ⟨_, rfl⟩
  have hS : conflG r = conF ah ((livF O).map (·.v)) := by unfold conflG liveG; rw [hO, hah]
  have hac := fun a b => ahead_rel g ma mb n m q r hrel ho a b
  rw [← hah] at hac
  rw [← hO] at hsc hol
  rw [hS]
  refine LCalls.of Tryd.func14 rfl Tryd.ntmps14 Tryd.results14 rfl (fun Rf => ?_)
  refine LW.seq ?_
  refine LW.region ?_
  refine X.u (LU.assignR Is.rfl') rfl ?_
  refine LL.nil (after_code ?_)
  refine LW.seq ?_
  refine LW.region ?_
  refine X.u (LU.assign (Is.nil 33)) rfl ?_
  refine LL.nil (after_code ?_)
  refine LW.seq ?_
  refine LW.seq ?_
  refine LW.region ?_
  refine X.u (LU.moveR Is.rfl') rfl ?_
  refine X.u (LU.callP (List.Perm.refl _) (hsc) Tryd.func18 rfl rfl (Opds.cons Is.rfl' Opds.nil)) rfl ?_
  refine X.u (LU.lenN Tryd.underlying45 Is.rfl' (by (simp only [Option.getD_some, Option.getD_none, byteEls_length, intEls_length, List.length_append, List.length_cons, List.length_nil, List.length_map, List.length_drop, List.length_take, Int.toNat_natCast]; rfl))) rfl ?_
  refine X.u (LU.moveR Is.rfl') rfl ?_
  refine LL.nil (after_code ?_)
  refine LW.block ?_
  refine X.wweak (t := 3) (v := Vxs [] (.tok 0 0 0)) (Is.full_tok 0 0) ?_
  refine X.wghost (HSub.tail0 0 0 0 (Nat.le_refl _) _) ?_
  refine X.loopK (α := Nat × List Vx × Nat × Nat × Nat) (fun ⟨i, L, b, o, c⟩ => [(14, i64 i), (3, Vxs L (.tok b o c))]) [0, 2, 12, 13] (fun ⟨i, L, b, o, c⟩ => .tail b o c :: gC g ma mb n :: gA ma m :: kb :: Rf) (fun ⟨i, L, b, o, c⟩ => i ≤ O.length ∧ L = (livF (O.take i)).map (·.v)) (fun ⟨i, L, b, o, c⟩ => O.length - i) ((0, [], 0, 0, 0)) (EnvLe.cons (by rfl) (EnvLe.cons (by rfl) (EnvLe.nil))) (by repeat (exact HSub.refl _)) ?_ ?_
  · exact ⟨Nat.zero_le _, rfl⟩
  · rintro ⟨i, L, b, o, c⟩ hI
    obtain ⟨hi, hT⟩ := hI
    refine LW.seq ?_
    refine LW.region ?_
    refine X.u (LU.lss Is.rfl' Is.rfl') rfl ?_
    refine LL.nil (after_code ?_)
    refine LW.seq ?_
    refine X.cond rfl (fun h3 => ?_) (fun h3 => ?_)
    · try have h3 := of_decide_eq_true h3
      refine LW.skip (after_code ?_)
      refine LW.seq ?_
      refine LW.block ?_
      refine LW.seq ?_
      obtain ⟨x, hx⟩ := at_lt (show i < O.length by omega)
      have hxl := sh_len x
      have hv32 : x.v.p.1.length = 32 := x.v.p.2
      have hxvl := vxL_len x.v
      have htk : L.length ≤ i := by
        rw [hT, List.length_map]
        refine Nat.le_trans (livF_len _) ?_
        rw [List.length_take]; omega
      refine LW.region ?_
      refine X.u (LU.at Tryd.underlying45 ⟨Tryd.sizeOf49, Tryd.isAgg49⟩ Is.rfl' Is.rfl' (by omega) (shs_at hx) (sh_ne x)) rfl ?_
      refine X.u (LU.weak (LU.load ⟨Tryd.sizeOf49, Tryd.isAgg49⟩ Is.rfl' (by assumption) (Part.whole (by assumption))) (Is.of (y := .agg (shL x)) (rfl))) rfl ?_
      refine X.act (X.alloc rfl Tryd.zeroValue49 (by exact Cells.rawagg (by decide)) (fun b5 => ?_))
      refine X.act (X.store 0 rfl Tryd.sizeOf49 Is.rfl' Is.rfl' (by exact Cells.agg) (by assumption) (by exact Nat.le_of_ble_eq_true rfl) ?_)
      refine LL.nil (after_code ?_)
      refine LW.seq ?_
      refine X.wcells (ys := shL x) (putAt_all (by rw [hxl]; rfl)) ?_
      refine X.wghost (H' := .tail b o c :: .cells b5 49 (shL x) :: gC g ma mb n :: gA ma m :: kb :: Rf) (by repeat (first | exact HSub.refl _ | refine HSub.pick 1 rfl ?_)) ?_
      refine LW.region ?_
      refine X.u (LU.fieldO Tryd.underlying49 rfl Tryd.sizeOf3 (by decide) Is.rfl') rfl ?_
      refine X.u (LU.loadO 1 rfl ⟨Tryd.sizeOf3, Tryd.isAgg3⟩ Is.rfl' (Part.one ((show (shL x)[34]? = some (i64 (x.kills : Nat)) from sh_kills x)))) rfl ?_
      refine X.u (LU.eql Is.rfl' Is.rfl') rfl ?_
      refine LL.nil (after_code ?_)
      refine X.cond rfl (fun h5 => ?_) (fun h5 => ?_)
      · have h5 : x.kills = 0 := by simp at h5; omega
        have hz0 : (0 : Nat) = 0 := rfl
        refine LW.region ?_
        refine X.u (LU.moveS Is.rfl') rfl ?_
        refine X.u (LU.fieldO Tryd.underlying49 rfl Tryd.sizeOf35 (by decide) Is.rfl') rfl ?_
        refine X.u (LU.weak (LU.loadO 1 rfl ⟨Tryd.sizeOf35, Tryd.isAgg35⟩ Is.rfl' (Part.sub (by (simp; omega)))) (Is.of (y := .agg (vxL x.v)) (congrArg LV.agg (sh_v x)))) rfl ?_
        refine X.u (LU.lits Tryd.underlying26 Tryd.sizeOf35 Tryd.zeroValue35 (ones rfl) rfl (by decide) (by decide) (Elems.cons Is.rfl' (by exact Cells.agg) Elems.nil) (by (simp; assumption)) rfl) rfl ?_
        refine X.act (X.append 0 rfl rfl Tryd.underlying26 (El.of (P := Tryd.prog) (z := (.agg #[(.int .u8 0), (.int .u8 0), (.int .u8 0), (.int .u8 0), (.int .u8 0), (.int .u8 0), (.int .u8 0), (.int .u8 0), (.int .u8 0), (.int .u8 0), (.int .u8 0), (.int .u8 0), (.int .u8 0), (.int .u8 0), (.int .u8 0), (.int .u8 0), (.int .u8 0), (.int .u8 0), (.int .u8 0), (.int .u8 0), (.int .u8 0), (.int .u8 0), (.int .u8 0), (.int .u8 0), (.int .u8 0), (.int .u8 0), (.int .u8 0), (.int .u8 0), (.int .u8 0), (.int .u8 0), (.int .u8 0), (.int .u8 0), (.int .i64 0)])) (size := 33) (bytes := 40) rfl rfl rfl) Is.rfl' Is.rfl' (SrcL.slice Tryd.underlying26 (by decide) (by intro e he; rw [List.mem_singleton.1 he]; exact hxvl)) (by simp only [Option.getD_some, Option.getD_none, byteEls_length, intEls_length, List.length_append, List.length_cons, List.length_nil, List.length_map, List.length_drop, List.length_take, Int.toNat_natCast]; omega) (by simp only [Option.getD_some, Option.getD_none, byteEls_length, intEls_length, List.length_append, List.length_cons, List.length_nil, List.length_map, List.length_drop, List.length_take, Int.toNat_natCast]; omega) (fun b25 o25 c25 => X.weak (t := 25) (Is.of (y := Vxs (L ++ [x.v]) (.tok b25 o25 c25)) (congrArg (fun z => LV.sl 33 z (.tok b25 o25 c25)) (vxs_app L [x.v]))) ?_))
        refine X.u (LU.assignS Is.rfl') rfl ?_
        refine LL.nil (after_blk (after_code ?_))
        refine LW.region ?_
        refine X.u (LU.addN Is.rfl' Is.rfl' (wrap_i64 (by omega) (by omega))) rfl ?_
        refine X.u (LU.moveR Is.rfl') rfl ?_
        refine LL.nil (after_rnd ?_)
        refine X.next ((i + 1, L ++ [x.v], b25, o25, c25)) rfl (EnvLe.cons (by rfl) (EnvLe.cons (by rfl) (EnvLe.nil))) (Keeps.cons (by exact Eq.trans (b := .raw _) rfl rfl) (Keeps.cons (by exact Eq.trans (b := .raw _) rfl rfl) (Keeps.cons (by exact Eq.trans (b := .sl _ _ _) rfl rfl) (Keeps.cons (by exact Eq.trans (b := .raw _) rfl rfl) (Keeps.nil))))) (by repeat (first | exact HSub.refl _ | refine HSub.pick 0 rfl ?_ | refine HSub.pick 1 rfl ?_ | refine HSub.drop ?_)) ?_ ?_
        · exact ⟨by omega, by rw [take_snoc hx, livF_snoc, if_pos h5, List.map_append, ← hT]; rfl⟩
        · (simp; omega)
      · have h5 : ¬ x.kills = 0 := by simp at h5; omega
        have hz0 : (0 : Nat) = 0 := rfl
        refine LW.skip (after_blk (after_code ?_))
        refine LW.region ?_
        refine X.u (LU.addN Is.rfl' Is.rfl' (wrap_i64 (by omega) (by omega))) rfl ?_
        refine X.u (LU.moveR Is.rfl') rfl ?_
        refine LL.nil (after_rnd ?_)
        refine X.next ((i + 1, L, b, o, c)) rfl (EnvLe.cons (by rfl) (EnvLe.cons (by rfl) (EnvLe.nil))) (Keeps.cons (by exact Eq.trans (b := .raw _) rfl rfl) (Keeps.cons (by exact Eq.trans (b := .raw _) rfl rfl) (Keeps.cons (by exact Eq.trans (b := .sl _ _ _) rfl rfl) (Keeps.cons (by exact Eq.trans (b := .raw _) rfl rfl) (Keeps.nil))))) (by repeat (first | exact HSub.refl _ | refine HSub.pick 0 rfl ?_ | refine HSub.pick 1 rfl ?_ | refine HSub.drop ?_)) ?_ ?_
        · exact ⟨by omega, by rw [take_snoc hx, livF_snoc, if_neg h5, List.append_nil, hT]⟩
        · (simp; omega)
    · try have h3 := of_decide_eq_false h3
      refine LW.exit (exit_code (exit_rnd (exit_blk (after_code ?_))))
      refine LW.seq ?_
      rw [List.take_of_length_le (by omega)] at hT
      have hLl : L.length ≤ 512 := by
        rw [hT, List.length_map]
        exact Nat.le_trans (livF_len _) hol
      have hcl := conF_le ah L
      have hcl2 : L.length * L.length ≤ 512 * 512 := Nat.mul_le_mul hLl hLl
      refine LW.region ?_
      refine X.u (LU.assignR Is.rfl') rfl ?_
      refine LL.nil (after_code ?_)
      refine LW.seq ?_
      refine LW.seq ?_
      refine LW.region ?_
      refine X.u (LU.moveS Is.rfl') rfl ?_
      refine X.u (LU.lenN Tryd.underlying26 Is.rfl' (by (simp only [Option.getD_some, Option.getD_none, byteEls_length, intEls_length, List.length_append, List.length_cons, List.length_nil, List.length_map, List.length_drop, List.length_take, Int.toNat_natCast]; rfl))) rfl ?_
      refine X.u (LU.moveR Is.rfl') rfl ?_
      refine LL.nil (after_code ?_)
      refine LW.block ?_
      refine X.loopK (α := Nat × Nat) (fun ⟨i, k⟩ => [(29, i64 i), (6, i64 k)]) [0, 2, 3, 27, 28] (fun ⟨i, k⟩ => .tail b o c :: gC g ma mb n :: gA ma m :: kb :: Rf) (fun ⟨i, k⟩ => i ≤ L.length ∧ k + conF ah (L.drop i) = conF ah L) (fun ⟨i, k⟩ => L.length - i) ((0, 0)) (EnvLe.cons (by rfl) (EnvLe.cons (by rfl) (EnvLe.nil))) (by repeat (exact HSub.refl _)) ?_ ?_
      · exact ⟨Nat.zero_le _, by rw [List.drop_zero, Nat.zero_add]⟩
      · rintro ⟨i, k⟩ hI
        obtain ⟨hi, hk⟩ := hI
        refine LW.seq ?_
        refine LW.region ?_
        refine X.u (LU.lss Is.rfl' Is.rfl') rfl ?_
        refine LL.nil (after_code ?_)
        refine LW.seq ?_
        refine X.cond rfl (fun h10 => ?_) (fun h10 => ?_)
        · try have h10 := of_decide_eq_true h10
          refine LW.skip (after_code ?_)
          refine LW.seq ?_
          refine LW.block ?_
          refine LW.seq ?_
          obtain ⟨v, hv⟩ := at_lt (show i < L.length by omega)
          have hvl := vxL_len v
          have hv32 : v.p.1.length = 32 := v.p.2
          rw [drop_at hv, conF] at hk
          have hdl : (L.drop (i + 1)).length = L.length - (i + 1) := List.length_drop ..
          refine LW.region ?_
          refine X.u (LU.moveR Is.rfl') rfl ?_
          refine X.u (LU.at Tryd.underlying26 ⟨Tryd.sizeOf35, Tryd.isAgg35⟩ Is.rfl' Is.rfl' (by omega) (vxs_at hv) (vx_ne v)) rfl ?_
          refine X.u (LU.weak (LU.load ⟨Tryd.sizeOf35, Tryd.isAgg35⟩ Is.rfl' (by assumption) (Part.whole (by assumption))) (Is.of (y := .agg (vxL v)) (rfl))) rfl ?_
          refine X.act (X.alloc rfl Tryd.zeroValue35 (by exact Cells.rawagg (by decide)) (fun b8 => ?_))
          refine X.u (LU.assignR Is.rfl') rfl ?_
          refine X.act (X.store 0 rfl Tryd.sizeOf35 Is.rfl' Is.rfl' (by exact Cells.agg) (by assumption) (by exact Nat.le_of_ble_eq_true rfl) ?_)
          refine LL.nil (after_code ?_)
          refine LW.seq ?_
          refine X.wcells (ys := vxL v) (putAt_all (by rw [hvl]; rfl)) ?_
          refine LW.region ?_
          refine X.u (LU.moveS Is.rfl') rfl ?_
          refine X.u (LU.moveR Is.rfl') rfl ?_
          refine X.u (LU.weak (LU.addN Is.rfl' Is.rfl' (wrap_i64 (by omega) (by omega))) (Is.of (y := i64 ((i + 1 : Nat) : Int)) (rfl))) rfl ?_
          refine X.u (LU.weak (LU.slice (lo := some _) (hi := none) (l := some ((i + 1 : Nat) : Int)) (h := none) Tryd.sizeOf35 (by decide) Tryd.underlying26 Is.rfl' ⟨_, Is.rfl'⟩ trivial (by simp; omega) (by simp only [Option.getD_some, Option.getD_none, List.length_map]; omega) (by simp only [Option.getD_some, Option.getD_none, List.length_map]; try omega) .unk (.inl rfl)) (Is.of (y := Vxs (L.drop (i + 1)) .unk) (congrArg (fun z => LV.sl 33 z .unk) (by simp only [Option.getD_some, Option.getD_none, Int.toNat_natCast, vxs, List.map_drop, List.length_map]; rw [List.take_of_length_le (by simp)])))) rfl ?_
          refine X.u (LU.weak (LU.lenN Tryd.underlying26 Is.rfl' (by (simp only [Option.getD_some, Option.getD_none, byteEls_length, intEls_length, List.length_append, List.length_cons, List.length_nil, List.length_map, List.length_drop, List.length_take, Int.toNat_natCast]; rfl))) (Is.of (y := i64 ((L.drop (i + 1)).length : Nat)) (congrArg i64 (by simp)))) rfl ?_
          refine X.u (LU.moveR Is.rfl') rfl ?_
          refine LL.nil (after_code ?_)
          refine LW.block ?_
          refine X.loopK (α := Nat × Nat) (fun ⟨j, k2⟩ => [(39, i64 j), (6, i64 k2)]) [0, 2, 3, 8, 27, 28, 29, 37, 38] (fun ⟨j, k2⟩ => .cells b8 35 (vxL v) :: .tail b o c :: gC g ma mb n :: gA ma m :: kb :: Rf) (fun ⟨j, k2⟩ => j ≤ (L.drop (i + 1)).length ∧ k2 + (((L.drop (i + 1)).drop j).filter (fun w => !ah v w)).length + conF ah (L.drop (i + 1)) = conF ah L) (fun ⟨j, k2⟩ => (L.drop (i + 1)).length - j) ((0, k)) (EnvLe.cons (by rfl) (EnvLe.cons (by rfl) (EnvLe.nil))) (by repeat (exact HSub.refl _)) ?_ ?_
          · exact ⟨Nat.zero_le _, by rw [List.drop_zero]; omega⟩
          · rintro ⟨j, k2⟩ hI
            obtain ⟨hj, hk2⟩ := hI
            refine LW.seq ?_
            refine LW.region ?_
            refine X.u (LU.lss Is.rfl' Is.rfl') rfl ?_
            refine LL.nil (after_code ?_)
            refine LW.seq ?_
            refine X.cond rfl (fun h13 => ?_) (fun h13 => ?_)
            · try have h13 := of_decide_eq_true h13
              refine LW.skip (after_code ?_)
              refine LW.seq ?_
              refine LW.block ?_
              refine LW.seq ?_
              obtain ⟨w, hw⟩ := at_lt (show j < (L.drop (i + 1)).length by omega)
              have hwl := vxL_len w
              have hw32 : w.p.1.length = 32 := w.p.2
              rw [drop_at hw, List.filter_cons] at hk2
              refine LW.region ?_
              refine X.u (LU.at Tryd.underlying26 ⟨Tryd.sizeOf35, Tryd.isAgg35⟩ Is.rfl' Is.rfl' (by omega) (vxs_at hw) (vx_ne w)) rfl ?_
              refine X.u (LU.weak (LU.load ⟨Tryd.sizeOf35, Tryd.isAgg35⟩ Is.rfl' (by assumption) (Part.whole (by assumption))) (Is.of (y := .agg (vxL w)) (rfl))) rfl ?_
              refine X.act (X.alloc rfl Tryd.zeroValue35 (by exact Cells.rawagg (by decide)) (fun b10 => ?_))
              refine X.act (X.store 0 rfl Tryd.sizeOf35 Is.rfl' Is.rfl' (by exact Cells.agg) (by assumption) (by exact Nat.le_of_ble_eq_true rfl) ?_)
              refine LL.nil (after_code ?_)
              refine LW.seq ?_
              refine X.wcells (ys := vxL w) (putAt_all (by rw [hwl]; rfl)) ?_
              refine X.wghost (H' := .cells b10 35 (vxL w) :: .cells b8 35 (vxL v) :: .tail b o c :: gC g ma mb n :: gA ma m :: kb :: Rf) (by repeat (exact HSub.refl _)) ?_
              refine LW.region ?_
              refine X.u (LU.moveR Is.rfl') rfl ?_
              refine X.u (LU.loadO 1 rfl ⟨Tryd.sizeOf35, Tryd.isAgg35⟩ Is.rfl' (Part.whole (by assumption))) rfl ?_
              refine X.u (LU.loadO 0 rfl ⟨Tryd.sizeOf35, Tryd.isAgg35⟩ Is.rfl' (Part.whole (by assumption))) rfl ?_
              refine X.u (LU.callP (show List.Perm _ ([gC g ma mb n, gA ma m] ++ (.cells b10 35 (vxL w) :: .cells b8 35 (vxL v) :: .tail b o c :: kb :: Rf)) from perm_of fun x => (by simp only [List.count_append, List.count_cons, List.count_nil]; omega)) (hac v w) Tryd.func21 rfl rfl (Opds.cons Is.rfl' (Opds.cons Is.rfl' (Opds.cons Is.rfl' Opds.nil)))) rfl ?_
              refine X.u (LU.not Is.rfl') rfl ?_
              refine LL.nil (after_code ?_)
              refine X.cond rfl (fun h15 => ?_) (fun h15 => ?_)
              · have h15 : ah v w = false := by simpa using h15
                simp only [h15, Bool.not_false, if_true, List.length_cons] at hk2
                refine LW.region ?_
                refine X.u (LU.moveR Is.rfl') rfl ?_
                refine X.u (LU.addN Is.rfl' Is.rfl' (wrap_i64 (by omega) (by omega))) rfl ?_
                refine X.u (LU.assignR Is.rfl') rfl ?_
                refine LL.nil (after_blk (after_code ?_))
                refine LW.region ?_
                refine X.u (LU.addN Is.rfl' Is.rfl' (wrap_i64 (by omega) (by omega))) rfl ?_
                refine X.u (LU.moveR Is.rfl') rfl ?_
                refine LL.nil (after_rnd ?_)
                refine X.next ((j + 1, k2 + 1)) rfl (EnvLe.cons (by rfl) (EnvLe.cons (by rfl) (EnvLe.nil))) (Keeps.cons (by exact Eq.trans (b := .raw _) rfl rfl) (Keeps.cons (by exact Eq.trans (b := .raw _) rfl rfl) (Keeps.cons (by exact Eq.trans (b := .sl _ _ _) rfl rfl) (Keeps.cons (by exact Eq.trans (b := .raw _) rfl rfl) (Keeps.cons (by exact Eq.trans (b := .sl _ _ _) rfl rfl) (Keeps.cons (by exact Eq.trans (b := .raw _) rfl rfl) (Keeps.cons (by exact Eq.trans (b := .raw _) rfl rfl) (Keeps.cons (by exact Eq.trans (b := .sl _ _ _) rfl rfl) (Keeps.cons (by exact Eq.trans (b := .raw _) rfl rfl) (Keeps.nil)))))))))) (by repeat (first | exact HSub.refl _ | refine HSub.pick 1 rfl ?_ | refine HSub.drop ?_)) ?_ ?_
                · exact ⟨by omega, by omega⟩
                · (simp; omega)
              · have h15 : ah v w = true := by simpa using h15
                simp only [h15, Bool.not_true, Bool.false_eq_true, if_false] at hk2
                refine LW.skip (after_blk (after_code ?_))
                refine LW.region ?_
                refine X.u (LU.addN Is.rfl' Is.rfl' (wrap_i64 (by omega) (by omega))) rfl ?_
                refine X.u (LU.moveR Is.rfl') rfl ?_
                refine LL.nil (after_rnd ?_)
                refine X.next ((j + 1, k2)) rfl (EnvLe.cons (by rfl) (EnvLe.cons (by rfl) (EnvLe.nil))) (Keeps.cons (by exact Eq.trans (b := .raw _) rfl rfl) (Keeps.cons (by exact Eq.trans (b := .raw _) rfl rfl) (Keeps.cons (by exact Eq.trans (b := .sl _ _ _) rfl rfl) (Keeps.cons (by exact Eq.trans (b := .raw _) rfl rfl) (Keeps.cons (by exact Eq.trans (b := .sl _ _ _) rfl rfl) (Keeps.cons (by exact Eq.trans (b := .raw _) rfl rfl) (Keeps.cons (by exact Eq.trans (b := .raw _) rfl rfl) (Keeps.cons (by exact Eq.trans (b := .sl _ _ _) rfl rfl) (Keeps.cons (by exact Eq.trans (b := .raw _) rfl rfl) (Keeps.nil)))))))))) (by repeat (first | exact HSub.refl _ | refine HSub.pick 1 rfl ?_ | refine HSub.drop ?_)) ?_ ?_
                · exact ⟨by omega, by omega⟩
                · (simp; omega)
            · try have h13 := of_decide_eq_false h13
              refine LW.exit (exit_code (exit_rnd (exit_blk (after_blk (after_code ?_)))))
              refine LW.region ?_
              refine X.u (LU.addN Is.rfl' Is.rfl' (wrap_i64 (by omega) (by omega))) rfl ?_
              refine X.u (LU.moveR Is.rfl') rfl ?_
              refine LL.nil (after_rnd ?_)
              refine X.next ((i + 1, k2)) rfl (EnvLe.cons (by rfl) (EnvLe.cons (by rfl) (EnvLe.nil))) (Keeps.cons (by exact Eq.trans (b := .raw _) rfl rfl) (Keeps.cons (by exact Eq.trans (b := .raw _) rfl rfl) (Keeps.cons (by exact Eq.trans (b := .sl _ _ _) rfl rfl) (Keeps.cons (by exact Eq.trans (b := .sl _ _ _) rfl rfl) (Keeps.cons (by exact Eq.trans (b := .raw _) rfl rfl) (Keeps.nil)))))) (by repeat (first | exact HSub.refl _ | refine HSub.pick 1 rfl ?_ | refine HSub.drop ?_)) ?_ ?_
              · refine ⟨by omega, ?_⟩
                rw [List.drop_drop, List.drop_of_length_le (by omega)] at hk2
                simpa using hk2
              · (simp; omega)
        · try have h10 := of_decide_eq_false h10
          refine LW.exit (exit_code (exit_rnd (exit_blk (after_code ?_))))
          refine LW.seq ?_
          refine LW.region ?_
          refine X.u (LU.moveR Is.rfl') rfl ?_
          refine X.u (LU.assignR Is.rfl') rfl ?_
          refine LL.nil (after_code ?_)
          refine LW.ret (after_end ?_)
          refine X.ret (H' := [gC g ma mb n, gA ma m, kb]) (Res.one (by exact IsR rfl)) (by repeat (first | exact HSub.refl _ | refine HSub.pick 1 rfl ?_ | refine HSub.drop ?_)) ?_
          rw [List.drop_of_length_le (by omega)] at hk
          exact ⟨by rw [← hT, ← hk]; simp [conF], rfl⟩
end Go.Proofs.YtolpkeajokjbjaaDoor
namespace Go.Proofs.YtolpkeajokjbjaaDoor
open Go.RowKit Go.L Go.Lib
attribute [local irreducible] LL LW LO
structure Ac where
  kind : Int
  up : Vx
  down : Vx
  ids : List Vx
  texts : List (List UInt8)
  by_ : Hs
abbrev acL (a : Ac) : List LV := i64 a.kind :: (vxL a.up ++ (vxL a.down ++ ([Vxs a.ids .unk, .sl 1 (strsL a.texts) .unk] ++ hsL a.by_)))
theorem ac_len (a : Ac) : (acL a).length = 101 := by simp [a.up.p.2, a.down.p.2, a.by_.2]
theorem ac_up (a : Ac) : ((acL a).drop 1).take 33 = vxL a.up := by
  rw [show (acL a).drop 1 = vxL a.up ++ _ from rfl, List.take_left' (vxL_len a.up)]
theorem ac_down (a : Ac) : ((acL a).drop 34).take 33 = vxL a.down := by
  rw [show (34 : Nat) = 1 + 33 from rfl, ← List.drop_drop, show (acL a).drop 1 = vxL a.up ++ _ from rfl, List.drop_left' (vxL_len a.up), List.take_left' (vxL_len a.down)]
theorem ac_d67 (a : Ac) : (acL a).drop 67 = [Vxs a.ids .unk, .sl 1 (strsL a.texts) .unk] ++ hsL a.by_ := by
  rw [show (67 : Nat) = 1 + 33 + 33 from rfl, ← List.drop_drop, ← List.drop_drop, show (acL a).drop 1 = vxL a.up ++ _ from rfl, List.drop_left' (vxL_len a.up), List.drop_left' (vxL_len a.down)]
theorem ac_ids (a : Ac) : (acL a)[67]? = some (Vxs a.ids .unk) := by
  have h := congrArg (fun l => l[0]?) (ac_d67 a)
  simp only [List.getElem?_drop] at h
  exact h
theorem ac_texts (a : Ac) : (acL a)[68]? = some (.sl 1 (strsL a.texts) .unk) := by
  have h := congrArg (fun l => l[1]?) (ac_d67 a)
  simp only [List.getElem?_drop] at h
  exact h
theorem ac_by (a : Ac) : ((acL a).drop 69).take 32 = hsL a.by_ := by
  rw [show (69 : Nat) = 67 + 2 from rfl, ← List.drop_drop, ac_d67]
  exact List.take_of_length_le (by rw [show (([Vxs a.ids .unk, .sl 1 (strsL a.texts) .unk] ++ hsL a.by_).drop 2) = hsL a.by_ from rfl, hsL_len]; exact Nat.le_refl _)
set_option maxRecDepth 100000 in
theorem texts_calls (a b : List (List UInt8)) (k1 k2 : Cap) (ha : a.length < 140737488355328) (hb : b.length < 140737488355328) : LCalls Tryd.prog 12 [.sl 1 (strsL a) k1, .sl 1 (strsL b) k2] [] (fun r H' => r = bl (decide (a = b)) ∧ H' = []) := by
  refine LCalls.of Tryd.func12 rfl Tryd.ntmps12 Tryd.results12 rfl (fun Rf => ?_)
  refine LW.seq ?_
  refine LW.region ?_
  refine X.u (LU.assignR Is.rfl') rfl ?_
  refine LL.nil (after_code ?_)
  refine LW.seq ?_
  refine LW.seq ?_
  refine LW.region ?_
  refine X.u (LU.moveS Is.rfl') rfl ?_
  refine X.u (LU.lenN Tryd.underlying25 Is.rfl' (by (simp only [Option.getD_some, Option.getD_none, byteEls_length, intEls_length, List.length_append, List.length_cons, List.length_nil, List.length_map, List.length_drop, List.length_take, Int.toNat_natCast]; rfl))) rfl ?_
  refine X.u (LU.moveS Is.rfl') rfl ?_
  refine X.u (LU.lenN Tryd.underlying25 Is.rfl' (by (simp only [Option.getD_some, Option.getD_none, byteEls_length, intEls_length, List.length_append, List.length_cons, List.length_nil, List.length_map, List.length_drop, List.length_take, Int.toNat_natCast]; rfl))) rfl ?_
  refine X.u (LU.neq Is.rfl' Is.rfl') rfl ?_
  refine LL.nil (after_code ?_)
  refine X.cond rfl (fun h1 => ?_) (fun h1 => ?_)
  · have h1 : a.length ≠ b.length := by have := h1; simp at this; omega
    have hz0 : (0 : Nat) = 0 := rfl
    refine LW.seq ?_
    refine LW.region ?_
    refine X.u (LU.assignR Is.rfl') rfl ?_
    refine LL.nil (after_code ?_)
    refine LW.ret (ret_code (after_end ?_))
    refine X.ret (H' := []) (Res.one (by exact IsR rfl)) (by repeat (exact HSub.refl _)) ?_
    exact ⟨by rw [decide_eq_false fun e => h1 (congrArg List.length e)], rfl⟩
  · have h1 : a.length = b.length := by have := h1; simp at this; omega
    have hz0 : (0 : Nat) = 0 := rfl
    refine LW.skip (after_code ?_)
    refine LW.seq ?_
    refine LW.seq ?_
    refine LW.region ?_
    refine X.u (LU.assignR Is.rfl') rfl ?_
    refine LL.nil (after_code ?_)
    refine LW.block ?_
    refine X.loopK (α := Nat) (fun i => [(5, i64 i)]) [0, 1] (fun i => Rf) (fun i => i ≤ a.length ∧ a.take i = b.take i) (fun i => a.length - i) (0) (EnvLe.cons (by rfl) (EnvLe.nil)) (by repeat (exact HSub.refl _)) ?_ ?_
    · exact ⟨Nat.zero_le _, by simp⟩
    · rintro i hI
      obtain ⟨hi, he⟩ := hI
      refine LW.seq ?_
      refine LW.seq ?_
      refine LW.region ?_
      refine X.u (LU.moveR Is.rfl') rfl ?_
      refine X.u (LU.moveS Is.rfl') rfl ?_
      refine X.u (LU.lenN Tryd.underlying25 Is.rfl' (by (simp only [Option.getD_some, Option.getD_none, byteEls_length, intEls_length, List.length_append, List.length_cons, List.length_nil, List.length_map, List.length_drop, List.length_take, Int.toNat_natCast]; rfl))) rfl ?_
      refine X.u (LU.lss Is.rfl' Is.rfl') rfl ?_
      refine LL.nil (after_code ?_)
      refine X.cond rfl (fun h4 => ?_) (fun h4 => ?_)
      · try have h4 := of_decide_eq_true h4
        refine LW.skip (after_code ?_)
        refine LW.seq ?_
        refine LW.block ?_
        refine LW.seq ?_
        obtain ⟨x, hx⟩ := at_lt (show i < a.length by omega)
        obtain ⟨y, hy⟩ := at_lt (show i < b.length by omega)
        refine X.drawM 9 rfl (by kernel_rfl) rfl ?_
        refine QD.u (LU.moveS Is.rfl') rfl ?_
        refine QD.u (LU.moveR Is.rfl') rfl ?_
        refine QD.u (LU.at Tryd.underlying25 ⟨Tryd.sizeOf9, Tryd.isAgg9⟩ Is.rfl' Is.rfl' (by omega) (strsL_at hx) (by simp)) rfl ?_
        refine QD.u (LU.load ⟨Tryd.sizeOf9, Tryd.isAgg9⟩ Is.rfl' (by (simp; done)) (Part.one rfl)) rfl ?_
        refine QD.u (LU.moveS Is.rfl') rfl ?_
        refine QD.u (LU.moveR Is.rfl') rfl ?_
        refine QD.u (LU.at Tryd.underlying25 ⟨Tryd.sizeOf9, Tryd.isAgg9⟩ Is.rfl' Is.rfl' (by omega) (strsL_at hy) (by simp)) rfl ?_
        refine QD.u (LU.load ⟨Tryd.sizeOf9, Tryd.isAgg9⟩ Is.rfl' (by (simp; done)) (Part.one rfl)) rfl ?_
        refine QD.u (LU.strneN Is.rfl' Is.rfl') rfl ?_
        refine QD.nil ?_
        refine LL.nil (after_code ?_)
        refine X.cond rfl (fun h6 => ?_) (fun h6 => ?_)
        · have h6 : x ≠ y := by simpa using h6
          have hz0 : (0 : Nat) = 0 := rfl
          refine LW.seq ?_
          refine LW.region ?_
          refine X.u (LU.assignR Is.rfl') rfl ?_
          refine LL.nil (after_code ?_)
          refine LW.ret (ret_blk (ret_code (ret_rnd (ret_blk (ret_code (after_end ?_))))))
          refine X.ret (H' := []) (Res.one (by exact IsR rfl)) (by repeat (exact HSub.refl _)) ?_
          exact ⟨by rw [decide_eq_false fun e => h6 (by rw [e, hy] at hx; exact (Option.some.inj hx).symm)], rfl⟩
        · have h6 : x = y := by simpa using h6
          have hz0 : (0 : Nat) = 0 := rfl
          refine LW.skip (after_blk (after_code ?_))
          refine LW.region ?_
          refine X.u (LU.moveR Is.rfl') rfl ?_
          refine X.u (LU.addN Is.rfl' Is.rfl' (wrap_i64 (by omega) (by omega))) rfl ?_
          refine X.u (LU.assignR Is.rfl') rfl ?_
          refine LL.nil (after_rnd ?_)
          refine X.next (i + 1) rfl (EnvLe.cons (by rfl) (EnvLe.nil)) (Keeps.cons (by exact Eq.trans (b := .sl _ _ _) rfl rfl) (Keeps.cons (by exact Eq.trans (b := .sl _ _ _) rfl rfl) (Keeps.nil))) (by repeat (exact HSub.refl _)) ?_ ?_
          · exact ⟨by omega, by rw [take_snoc hx, take_snoc hy, he, h6]⟩
          · omega
      · try have h4 := of_decide_eq_false h4
        refine LW.exit (exit_code (exit_rnd (exit_blk (after_code ?_))))
        refine LW.seq ?_
        refine LW.region ?_
        refine X.u (LU.assignR Is.rfl') rfl ?_
        refine LL.nil (after_code ?_)
        refine LW.ret (after_end ?_)
        refine X.ret (H' := []) (Res.one (by exact IsR rfl)) (by repeat (exact HSub.refl _)) ?_
        rw [List.take_of_length_le (by omega), List.take_of_length_le (by omega)] at he
        exact ⟨by rw [decide_eq_true he], rfl⟩
end Go.Proofs.YtolpkeajokjbjaaDoor
namespace Go.Proofs.YtolpkeajokjbjaaDoor
open Go.RowKit Go.L Go.Lib
attribute [local irreducible] LL LW LO
abbrev h1 : Hs := ⟨1 :: List.replicate 31 0, rfl⟩
abbrev idV (n : Int) : Vx := ⟨h1, n⟩
set_option maxRecDepth 100000 in
theorem id_calls (n : Int) : LCalls Tryd.prog 38 [i64 n] [] (fun r H' => r = .agg (vxL (idV n)) ∧ H' = []) := by
  have hl := vxL_len (idV n)
  refine LCalls.of Tryd.func38 rfl Tryd.ntmps38 Tryd.results38 rfl (fun Rf => ?_)
  refine LW.seq ?_
  refine LW.region ?_
  refine X.act (X.alloc rfl Tryd.zeroValue35 (by exact Cells.rawagg (by decide)) (fun b2 => ?_))
  refine LL.nil (after_code ?_)
  refine LW.seq ?_
  refine LW.region ?_
  refine X.u (LU.weak (LU.buildA Tryd.underlying31 Tryd.sizeOf5 Tryd.zeroValue31 (ones rfl) (Parts.cons Is.rfl' (by exact Cells.raw rfl) Parts.nil) rfl) (Is.of (y := .agg (hsL h1)) (rfl))) rfl ?_
  refine X.u (LU.moveR Is.rfl') rfl ?_
  refine X.u (LU.weak (LU.build (places := #[(0, 32), (32, 1)]) Tryd.underlying35 Tryd.zeroValue35 (ones rfl) (by intro w; simp [Tryd.sizeOf3, Tryd.sizeOf31]) (Parts.cons Is.rfl' (by exact Cells.agg) (Parts.cons Is.rfl' (by exact Cells.raw rfl) Parts.nil)) rfl) (Is.of (y := .agg (vxL (idV n))) (rfl))) rfl ?_
  refine X.act (X.store 0 rfl Tryd.sizeOf35 Is.rfl' Is.rfl' (by exact Cells.agg) (by (simp; done)) (by exact Nat.le_of_ble_eq_true rfl) ?_)
  refine LL.nil (after_code ?_)
  refine LW.ret (after_end ?_)
  rw [putAt_all (by rw [hl]; rfl)]
  refine X.ret (H' := []) (Res.cell1 0 rfl rfl ⟨Tryd.sizeOf35, Tryd.isAgg35⟩ (Part.whole hl) (IsA rfl)) (by repeat (first | exact HSub.refl _ | refine HSub.drop ?_)) ?_
  exact ⟨rfl, rfl⟩
abbrev rg0 : Rg := ⟨[], []⟩
end Go.Proofs.YtolpkeajokjbjaaDoor
namespace Go.Proofs.YtolpkeajokjbjaaDoor
open Go.RowKit Go.L Go.Lib
attribute [local irreducible] LL LW LO
def lv1 : Rg := raddG rg0 topV botV [idV 5] [[97]]
def lv2 : Rg := raddG lv1 topV (idV 5) [idV 6] [[98]]
def lv3 : Rg := raddG lv2 (idV 5) botV [idV 7] [[99]]
def lv4 : Rg := raddG lv3 (idV 5) botV [idV 8] [[100]]
set_option maxRecDepth 100000 in
theorem lv_facts : raddE rg0 topV botV [idV 5] [[97]] = 0 ∧ raddE lv1 topV (idV 5) [idV 6] [[98]] = 0 ∧ raddE lv2 (idV 5) botV [idV 7] [[99]] = 0 ∧ raddE lv3 (idV 5) botV [idV 8] [[100]] = 0 ∧ textsG lv4 = [[98], [97], [99], [100]] ∧ conflG lv4 = 1 ∧ (idsG lv4.L).length = 4 := by decide +kernel
set_option maxHeartbeats 2000000 in
set_option maxRecDepth 100000 in
theorem lives_calls : LCalls Tryd.prog 15 [] [kb] (fun x H' => x = bl true ∧ H' = [kb]) := by
  obtain ⟨f1, f2, f3, f4, f5, f6, f7⟩ := lv_facts
  have htl := vxL_len topV
  have hbl := vxL_len botV
  have hi5 := vxL_len (idV 5)
  have hi6 := vxL_len (idV 6)
  have hi7 := vxL_len (idV 7)
  have hi8 := vxL_len (idV 8)
  refine LCalls.of Tryd.func15 rfl Tryd.ntmps15 Tryd.results15 rfl (fun Rf => ?_)
  refine LW.seq ?_
  refine LW.region ?_
  refine X.u (LU.assignR Is.rfl') rfl ?_
  refine LL.nil (after_code ?_)
  refine LW.seq ?_
  refine LW.region ?_
  refine X.act (X.call (new_r) Tryd.func9 rfl rfl rfl (by (refine HSub.pick 0 rfl ?_); exact HSub.refl _) Opds.nil ?_)
  rintro r H' ⟨g, s0, rfl, rfl, hs0⟩
  refine X.u (LU.assignR Is.rfl') rfl ?_
  refine LL.nil (after_code ?_)
  refine LW.seq ?_
  refine LW.region ?_
  refine X.u (LU.weak (LU.build (places := #[(0, 32), (32, 1)]) Tryd.underlying35 Tryd.zeroValue35 (ones rfl) (by intro w; simp [Tryd.sizeOf3, Tryd.sizeOf31]) Parts.nil rfl) (Is.of (y := .agg (vxL topV)) (rfl))) rfl ?_
  refine X.u (LU.weak (LU.build (places := #[(0, 32), (32, 1)]) Tryd.underlying35 Tryd.zeroValue35 (ones rfl) (by intro w; simp [Tryd.sizeOf3, Tryd.sizeOf31]) (Parts.cons Is.rfl' (by exact Cells.raw rfl) Parts.nil) rfl) (Is.of (y := .agg (vxL botV)) (rfl))) rfl ?_
  refine X.act (X.alloc rfl Tryd.zeroValue35 (by exact Cells.rawagg (by decide)) (fun b2 => ?_))
  refine X.act (X.alloc rfl Tryd.zeroValue35 (by exact Cells.rawagg (by decide)) (fun b3 => ?_))
  refine X.act (X.store 1 rfl Tryd.sizeOf35 Is.rfl' Is.rfl' (by exact Cells.agg) (by (simp; done)) (by exact Nat.le_of_ble_eq_true rfl) ?_)
  refine X.act (X.store 1 rfl Tryd.sizeOf35 Is.rfl' Is.rfl' (by exact Cells.agg) (by (simp; done)) (by exact Nat.le_of_ble_eq_true rfl) ?_)
  refine LL.nil (after_code ?_)
  refine LW.seq ?_
  refine X.wghost (H' := .cells b2 35 (vxL topV) :: .cells b3 35 (vxL botV) :: gC g s0.ma s0.mb s0.n :: gA s0.ma s0.m :: gP s0.mb s0.q :: kb :: Rf) (by repeat (first | exact HSub.refl _ | refine HSub.pick 1 rfl ?_)) ?_
  have ha1 := add_r g hs0 (by decide) topV botV [idV 5] [[97]] .full .full (by decide) (by decide)
  rw [f1] at ha1
  obtain ⟨R1, hR1⟩ : ∃ R1, R1 = raddG rg0 topV botV [idV 5] [[97]] := ⟨_, rfl⟩
  rw [← hR1] at ha1
  refine X.drawM 6 rfl (by kernel_rfl) rfl ?_
  refine QD.u (LU.moveR Is.rfl') rfl ?_
  refine QD.u (LU.weak (LU.loadO 0 rfl ⟨Tryd.sizeOf35, Tryd.isAgg35⟩ Is.rfl' (Part.whole (by (simp; done)))) (Is.of (y := .agg (vxL topV)) (rfl))) rfl ?_
  refine QD.u (LU.weak (LU.loadO 1 rfl ⟨Tryd.sizeOf35, Tryd.isAgg35⟩ Is.rfl' (Part.whole (by (simp; done)))) (Is.of (y := .agg (vxL botV)) (rfl))) rfl ?_
  refine QD.u (LU.call (id_calls 5) Tryd.func38 rfl rfl (Opds.cons Is.rfl' Opds.nil)) rfl ?_
  refine QD.u (LU.weak (LU.lits Tryd.underlying26 Tryd.sizeOf35 Tryd.zeroValue35 (ones rfl) rfl (by decide) (by decide) (Elems.cons Is.rfl' (by exact Cells.agg) Elems.nil) (by (simp; done)) rfl) (Is.of (y := Vxs [idV 5] .full) (rfl))) rfl ?_
  refine QD.u (LU.weak (LU.lits Tryd.underlying25 Tryd.sizeOf9 Tryd.zeroValue9 (ones rfl) rfl (by decide) (by decide) (Elems.cons Is.rfl' (by exact Cells.raw rfl) Elems.nil) (by (simp; done)) rfl) (Is.of (y := .sl 1 (strsL [[97]]) .full) (rfl))) rfl ?_
  refine QD.nil ?_
  refine X.act (X.call (ha1) Tryd.func11 rfl rfl rfl (by (refine HSub.pick 2 rfl ?_); (refine HSub.pick 2 rfl ?_); (refine HSub.pick 2 rfl ?_); (refine HSub.pick 2 rfl ?_); exact HSub.refl _) (Opds.cons Is.rfl' (Opds.cons Is.rfl' (Opds.cons Is.rfl' (Opds.cons Is.rfl' (Opds.cons Is.rfl' Opds.nil))))) ?_)
  rintro r H' ⟨rfl, s1, rfl, hs1⟩
  refine X.u (LU.assignR Is.rfl') rfl ?_
  refine LL.nil (after_code ?_)
  refine LW.seq ?_
  refine X.wghost (H' := .cells b2 35 (vxL topV) :: .cells b3 35 (vxL botV) :: gC g s1.ma s1.mb s1.n :: gA s1.ma s1.m :: gP s1.mb s1.q :: kb :: Rf) (by repeat (first | exact HSub.refl _ | refine HSub.pick 4 rfl ?_)) ?_
  rw [hR1, show raddG rg0 topV botV [idV 5] [[97]] = lv1 from rfl] at hs1
  have ha2 := add_r g hs1 (by decide) topV (idV 5) [idV 6] [[98]] .full .full (by decide) (by decide)
  rw [f2, show raddG lv1 topV (idV 5) [idV 6] [[98]] = lv2 from rfl] at ha2
  refine X.drawM 6 rfl (by kernel_rfl) rfl ?_
  refine QD.u (LU.moveR Is.rfl') rfl ?_
  refine QD.u (LU.weak (LU.loadO 0 rfl ⟨Tryd.sizeOf35, Tryd.isAgg35⟩ Is.rfl' (Part.whole (by (simp; done)))) (Is.of (y := .agg (vxL topV)) (rfl))) rfl ?_
  refine QD.u (LU.call (id_calls 5) Tryd.func38 rfl rfl (Opds.cons Is.rfl' Opds.nil)) rfl ?_
  refine QD.u (LU.call (id_calls 6) Tryd.func38 rfl rfl (Opds.cons Is.rfl' Opds.nil)) rfl ?_
  refine QD.u (LU.weak (LU.lits Tryd.underlying26 Tryd.sizeOf35 Tryd.zeroValue35 (ones rfl) rfl (by decide) (by decide) (Elems.cons Is.rfl' (by exact Cells.agg) Elems.nil) (by (simp; done)) rfl) (Is.of (y := Vxs [idV 6] .full) (rfl))) rfl ?_
  refine QD.u (LU.weak (LU.lits Tryd.underlying25 Tryd.sizeOf9 Tryd.zeroValue9 (ones rfl) rfl (by decide) (by decide) (Elems.cons Is.rfl' (by exact Cells.raw rfl) Elems.nil) (by (simp; done)) rfl) (Is.of (y := .sl 1 (strsL [[98]]) .full) (rfl))) rfl ?_
  refine QD.nil ?_
  refine X.act (X.call (ha2) Tryd.func11 rfl rfl rfl (by (refine HSub.pick 2 rfl ?_); (refine HSub.pick 2 rfl ?_); (refine HSub.pick 2 rfl ?_); (refine HSub.pick 2 rfl ?_); exact HSub.refl _) (Opds.cons Is.rfl' (Opds.cons Is.rfl' (Opds.cons Is.rfl' (Opds.cons Is.rfl' (Opds.cons Is.rfl' Opds.nil))))) ?_)
  rintro r H' ⟨rfl, s2, rfl, hs2⟩
  refine X.u (LU.assignR Is.rfl') rfl ?_
  refine LL.nil (after_code ?_)
  refine LW.seq ?_
  refine X.wghost (H' := .cells b2 35 (vxL topV) :: .cells b3 35 (vxL botV) :: gC g s2.ma s2.mb s2.n :: gA s2.ma s2.m :: gP s2.mb s2.q :: kb :: Rf) (by repeat (first | exact HSub.refl _ | refine HSub.pick 4 rfl ?_)) ?_
  have ha3 := add_r g hs2 (by decide) (idV 5) botV [idV 7] [[99]] .full .full (by decide) (by decide)
  rw [f3, show raddG lv2 (idV 5) botV [idV 7] [[99]] = lv3 from rfl] at ha3
  refine X.drawM 6 rfl (by kernel_rfl) rfl ?_
  refine QD.u (LU.moveR Is.rfl') rfl ?_
  refine QD.u (LU.call (id_calls 5) Tryd.func38 rfl rfl (Opds.cons Is.rfl' Opds.nil)) rfl ?_
  refine QD.u (LU.weak (LU.loadO 1 rfl ⟨Tryd.sizeOf35, Tryd.isAgg35⟩ Is.rfl' (Part.whole (by (simp; done)))) (Is.of (y := .agg (vxL botV)) (rfl))) rfl ?_
  refine QD.u (LU.call (id_calls 7) Tryd.func38 rfl rfl (Opds.cons Is.rfl' Opds.nil)) rfl ?_
  refine QD.u (LU.weak (LU.lits Tryd.underlying26 Tryd.sizeOf35 Tryd.zeroValue35 (ones rfl) rfl (by decide) (by decide) (Elems.cons Is.rfl' (by exact Cells.agg) Elems.nil) (by (simp; done)) rfl) (Is.of (y := Vxs [idV 7] .full) (rfl))) rfl ?_
  refine QD.u (LU.weak (LU.lits Tryd.underlying25 Tryd.sizeOf9 Tryd.zeroValue9 (ones rfl) rfl (by decide) (by decide) (Elems.cons Is.rfl' (by exact Cells.raw rfl) Elems.nil) (by (simp; done)) rfl) (Is.of (y := .sl 1 (strsL [[99]]) .full) (rfl))) rfl ?_
  refine QD.nil ?_
  refine X.act (X.call (ha3) Tryd.func11 rfl rfl rfl (by (refine HSub.pick 2 rfl ?_); (refine HSub.pick 2 rfl ?_); (refine HSub.pick 2 rfl ?_); (refine HSub.pick 2 rfl ?_); exact HSub.refl _) (Opds.cons Is.rfl' (Opds.cons Is.rfl' (Opds.cons Is.rfl' (Opds.cons Is.rfl' (Opds.cons Is.rfl' Opds.nil))))) ?_)
  rintro r H' ⟨rfl, s3, rfl, hs3⟩
  refine X.u (LU.assignR Is.rfl') rfl ?_
  refine LL.nil (after_code ?_)
  refine LW.seq ?_
  refine X.wghost (H' := .cells b2 35 (vxL topV) :: .cells b3 35 (vxL botV) :: gC g s3.ma s3.mb s3.n :: gA s3.ma s3.m :: gP s3.mb s3.q :: kb :: Rf) (by repeat (first | exact HSub.refl _ | refine HSub.pick 4 rfl ?_)) ?_
  have ha4 := add_r g hs3 (by decide) (idV 5) botV [idV 8] [[100]] .full .full (by decide) (by decide)
  rw [f4, show raddG lv3 (idV 5) botV [idV 8] [[100]] = lv4 from rfl] at ha4
  refine X.drawM 6 rfl (by kernel_rfl) rfl ?_
  refine QD.u (LU.moveR Is.rfl') rfl ?_
  refine QD.u (LU.call (id_calls 5) Tryd.func38 rfl rfl (Opds.cons Is.rfl' Opds.nil)) rfl ?_
  refine QD.u (LU.weak (LU.loadO 1 rfl ⟨Tryd.sizeOf35, Tryd.isAgg35⟩ Is.rfl' (Part.whole (by (simp; done)))) (Is.of (y := .agg (vxL botV)) (rfl))) rfl ?_
  refine QD.u (LU.call (id_calls 8) Tryd.func38 rfl rfl (Opds.cons Is.rfl' Opds.nil)) rfl ?_
  refine QD.u (LU.weak (LU.lits Tryd.underlying26 Tryd.sizeOf35 Tryd.zeroValue35 (ones rfl) rfl (by decide) (by decide) (Elems.cons Is.rfl' (by exact Cells.agg) Elems.nil) (by (simp; done)) rfl) (Is.of (y := Vxs [idV 8] .full) (rfl))) rfl ?_
  refine QD.u (LU.weak (LU.lits Tryd.underlying25 Tryd.sizeOf9 Tryd.zeroValue9 (ones rfl) rfl (by decide) (by decide) (Elems.cons Is.rfl' (by exact Cells.raw rfl) Elems.nil) (by (simp; done)) rfl) (Is.of (y := .sl 1 (strsL [[100]]) .full) (rfl))) rfl ?_
  refine QD.nil ?_
  refine X.act (X.call (ha4) Tryd.func11 rfl rfl rfl (by (refine HSub.pick 2 rfl ?_); (refine HSub.pick 2 rfl ?_); (refine HSub.pick 2 rfl ?_); (refine HSub.pick 2 rfl ?_); exact HSub.refl _) (Opds.cons Is.rfl' (Opds.cons Is.rfl' (Opds.cons Is.rfl' (Opds.cons Is.rfl' (Opds.cons Is.rfl' Opds.nil))))) ?_)
  rintro r H' ⟨rfl, s4, rfl, hs4⟩
  refine X.u (LU.assignR Is.rfl') rfl ?_
  refine LL.nil (after_code ?_)
  refine LW.seq ?_
  refine X.wghost (H' := gC g s4.ma s4.mb s4.n :: gA s4.ma s4.m :: kb :: gP s4.mb s4.q :: .cells b2 35 (vxL topV) :: .cells b3 35 (vxL botV) :: Rf) (by repeat (first | exact HSub.refl _ | refine HSub.pick 0 rfl ?_ | refine HSub.pick 1 rfl ?_)) ?_
  have hD : lv4.D.length < 900000 := by have := hs4.dc; omega
  have htc := text_calls g s4.ma s4.mb s4.n s4.m s4.q lv4 hs4.rel hs4.ok hD
  rw [f5] at htc
  have hcc := conflicts_calls g s4.ma s4.mb s4.n s4.m s4.q lv4 hs4.rel hs4.ok hD
  rw [f6] at hcc
  have hlc := len_r g hs4
  rw [f7] at hlc
  refine LW.region ?_
  refine X.u (LU.moveR Is.rfl') rfl ?_
  refine X.u (LU.eql Is.rfl' Is.rfl') rfl ?_
  refine X.u (LU.moveR Is.rfl') rfl ?_
  refine X.doT rfl rfl (LU.moveR (by exact Is.rfl')) rfl ?_
  refine X.doT rfl rfl (LU.eql (by exact Is.rfl') (by exact Is.rfl')) rfl ?_
  refine X.u (LU.pickT Is.rfl' (by exact Is.rfl')) rfl ?_
  refine X.u (LU.moveR Is.rfl') rfl ?_
  refine X.doT rfl rfl (LU.moveR (by exact Is.rfl')) rfl ?_
  refine X.doT rfl rfl (LU.eql (by exact Is.rfl') (by exact Is.rfl')) rfl ?_
  refine X.u (LU.pickT Is.rfl' (by exact Is.rfl')) rfl ?_
  refine X.u (LU.moveR Is.rfl') rfl ?_
  refine X.doT rfl rfl (LU.moveR (by exact Is.rfl')) rfl ?_
  refine X.doT rfl rfl (LU.eql (by exact Is.rfl') (by exact Is.rfl')) rfl ?_
  refine X.u (LU.pickT Is.rfl' (by exact Is.rfl')) rfl ?_
  refine X.u (LU.moveR Is.rfl') rfl ?_
  refine X.doT rfl rfl (LU.moveR (by exact Is.rfl')) rfl ?_
  refine X.doT rfl rfl (LU.callP (List.Perm.refl _) (htc) Tryd.func13 rfl rfl (Opds.cons (by exact Is.rfl') Opds.nil)) rfl ?_
  refine X.doT rfl rfl (LU.weak (LU.lits Tryd.underlying25 Tryd.sizeOf9 Tryd.zeroValue9 (ones rfl) rfl (by decide) (by decide) (Elems.cons (by exact Is.rfl') (by exact Cells.raw rfl) (Elems.cons (by exact Is.rfl') (by exact Cells.raw rfl) (Elems.cons (by exact Is.rfl') (by exact Cells.raw rfl) (Elems.cons (by exact Is.rfl') (by exact Cells.raw rfl) Elems.nil)))) (by (simp; done)) rfl) (Is.of (y := .sl 1 (strsL [[98], [97], [99], [100]]) .full) (rfl))) rfl ?_
  refine X.doT rfl rfl (LU.call (texts_calls [[98], [97], [99], [100]] [[98], [97], [99], [100]] .unk .full (by decide) (by decide)) Tryd.func12 rfl rfl (Opds.cons (by exact Is.rfl') (Opds.cons (by exact Is.rfl') Opds.nil))) rfl ?_
  refine X.u (LU.pickT Is.rfl' (by exact Is.rfl')) rfl ?_
  refine X.u (LU.moveR Is.rfl') rfl ?_
  refine X.doT rfl rfl (LU.moveR (by exact Is.rfl')) rfl ?_
  refine X.doT rfl rfl (LU.callP (List.Perm.refl _) (hcc) Tryd.func14 rfl rfl (Opds.cons (by exact Is.rfl') Opds.nil)) rfl ?_
  refine X.doT rfl rfl (LU.eql (by exact Is.rfl') (by exact Is.rfl')) rfl ?_
  refine X.u (LU.pickT Is.rfl' (by exact Is.rfl')) rfl ?_
  refine X.u (LU.moveR Is.rfl') rfl ?_
  refine X.doT rfl rfl (LU.moveR (by exact Is.rfl')) rfl ?_
  refine X.doT rfl rfl (LU.callP (List.Perm.refl _) (hlc) Tryd.func19 rfl rfl (Opds.cons (by exact Is.rfl') Opds.nil)) rfl ?_
  refine X.doT rfl rfl (LU.eql (by exact Is.rfl') (by exact Is.rfl')) rfl ?_
  refine X.u (LU.pickT Is.rfl' (by exact Is.rfl')) rfl ?_
  refine X.u (LU.moveR Is.rfl') rfl ?_
  refine X.u (LU.pickT Is.rfl' (by exact Is.rfl')) rfl ?_
  refine X.u (LU.assignR Is.rfl') rfl ?_
  refine LL.nil (after_code ?_)
  refine LW.ret (after_end ?_)
  refine X.ret (H' := [kb]) (Res.one (by exact IsR rfl)) (by repeat (first | exact HSub.refl _ | refine HSub.pick 2 rfl ?_ | refine HSub.drop ?_)) ?_
  exact ⟨rfl, rfl⟩
end Go.Proofs.YtolpkeajokjbjaaDoor
namespace Go.Proofs.YtolpkeajokjbjaaDoor
open Go.RowKit Go.L Go.Lib Go.ChangeShapes
attribute [local irreducible] LL LW LO
abbrev laidL {H : Type} : List (String × DataW H) := [("ingot/lines.bottom", Rows.laid_ingot_lines_bottom)]
theorem gBottom : Tryd.prog.globalNamed "ingot/lines.bottom" = some 0 := by kernel_rfl
theorem tBottom : (Tryd.prog.globals[0]?).map (·.type) = some 35 := by kernel_rfl
set_option maxRecDepth 100000 in
theorem door_met (os : Os) (args : Array Value) : laidMetH Tryd.prog laidL ((World.doorLaid Tryd.prog 2000 os).forCall (fun _ _ => 0) ⟨#[], args, []⟩).memory :=
  laidMetH_of_parts3 (fuel := 8) (laidMet_of_run' 8 (by kernel_rfl) (by kernel_rfl)) (by kernel_rfl) (by kernel_rfl)
abbrev Z32 : List Nat := List.replicate 32 0
set_option maxRecDepth 100000 in
theorem laid_bottom {H : Type} : (Rows.laid_ingot_lines_bottom : DataW H) = .agg [.agg (Z32.map fun (m : Nat) => .lit (.int .u8 m)), .lit (.int .i64 1)] := by kernel_rfl
set_option maxRecDepth 100000 in
theorem of_laid {W : World} (h : laidMetH Tryd.prog laidL W) : Rep (PH.all W) (.pointer (some ⟨0, 0, none⟩)) (.pin (vxL botV)) := by
  rw [MakeChecks.laidMetH_plain _ _ _ (by kernel_rfl)] at h
  obtain ⟨ps, ⟨g0, t0, cs0, f0, p0, q0, hg0, ht0, hv0, hd0, _, _⟩, _, _⟩ := h
  obtain rfl := Option.some.inj (gBottom.symm.trans hg0)
  obtain rfl := Option.some.inj (tBottom.symm.trans ht0)
  rw [laid_bottom] at hd0
  obtain ⟨y0, y1, k, hx, hl, e0, e1⟩ := trod_struct2 Tryd.underlying35 hd0
  simp only [Prod.mk.injEq, DataW.agg.injEq, List.cons.injEq, and_true] at hx
  obtain ⟨⟨hx0, hx1⟩, _⟩ := hx
  obtain ⟨z0, q0'⟩ := y0
  obtain ⟨z1, q1'⟩ := y1
  obtain rfl : DataW.agg _ = z0 := hx0
  obtain rfl : DataW.lit _ = z1 := hx1
  have hA := laid_ints (l := Z32) Tryd.underlying31 Tryd.underlying5 (by kernel_rfl) (by kernel_rfl) e0
  obtain ⟨n1, hB, hn1, _⟩ := DataW.trod_int Tryd.underlying3 e1
  have hn : n1 = 1 := by
    have := congrArg Prod.fst hn1
    simpa using this.symm
  subst hn
  have hc0 : Tryd.prog.cellsOf 31 = 32 := by kernel_rfl
  have hc1 : Tryd.prog.cellsOf 3 = 1 := by kernel_rfl
  have hc2 : Tryd.prog.cellsOf 35 = 33 := by kernel_rfl
  rw [hc2] at hl
  have hA' : cs0.toList.take 32 = Z32.map fun (m : Nat) => Value.int .u8 m := by
    have := hA
    rw [show Tryd.prog.cellsOf _ = 32 from hc0] at this
    simpa using this
  have hB' : (cs0.toList.drop 32).take 1 = [.int .i64 1] := by
    have := hB
    rw [show Tryd.prog.cellsOf _ = 1 from hc1] at this
    simpa using this
  have hcs : cs0.toList = vxs1 botV := by
    rw [← List.take_append_drop 32 cs0.toList, hA']
    rw [show cs0.toList.drop 32 = [.int .i64 1] from by
      rw [← hB', List.take_of_length_le (by rw [List.length_drop]; omega)]]
    rfl
  refine known_of fun j x hx => ?_
  have hvr := (vx_raw botV).eq
  rw [hvr] at hx
  unfold raws at hx
  rw [List.getElem?_map] at hx
  cases hq : (vxs1 botV)[j]? with
  | none => rw [hq] at hx; cases hx
  | some v =>
    rw [hq] at hx
    obtain rfl : LV.raw v = x := by simpa using hx
    refine ⟨v, ?_, ?_, .raw _⟩
    · rw [World.var?_cell hg0 hv0, ← Array.getElem?_toList, hcs, hq]
    · have hm := List.mem_of_getElem? hq
      have : ∀ v ∈ vxs1 botV, v.oneCell' = true := by decide +kernel
      exact this v hm
theorem reach_lt : reachBytes < 140737488355328 := by decide
theorem byte_flat : ∀ l : List UInt8, (byteEls l).flatten = l.map fun b => LV.raw (.int .u8 b.toNat)
  | [] => rfl
  | b :: l => by
    have := byte_flat l
    show _ :: (byteEls l).flatten = _
    rw [this]; rfl
theorem hs_of {x : List LV} (h : QArr 32 1 (QInt .u8) x) : ∃ a : Hs, x = hsL a := by
  obtain ⟨es, rfl, hl, he⟩ := h
  obtain ⟨l, rfl⟩ := decode_bytes (fun c hc => (he c hc).2)
  exact ⟨⟨l, by simpa [byteEls] using hl⟩, byte_flat l⟩
abbrev QVx : List LV → Prop := QCons 32 (QArr 32 1 (QInt .u8)) (QCons 1 (QInt .i64) QNil)
theorem vx_of {x : List LV} (h : QVx x) : ∃ a : Vx, x = vxL a := by
  obtain ⟨_, _, rfl, _, h1, _, _, rfl, _, ⟨n, rfl, _⟩, rfl⟩ := h
  obtain ⟨a, rfl⟩ := hs_of h1
  exact ⟨⟨a, n⟩, rfl⟩
abbrev QAct : List LV → Prop := QCons 1 (QInt .i64) (QCons 33 QVx (QCons 33 QVx (QCons 1 (QSl 33 40 QVx) (QCons 1 (QSl 1 16 QStr) (QCons 32 (QArr 32 1 (QInt .u8)) QNil)))))
def AcIn (a : Ac) : Prop := a.ids.length < 140737488355328 ∧ a.texts.length < 140737488355328
theorem strs_of {x : List (List LV)} (h : ∀ c ∈ x, QStr c) : ∃ l : List (List UInt8), x = strsL l := by
  obtain ⟨l, e, _⟩ := Go.L.decode (fun s : List UInt8 => [Str s]) (fun _ => True) (es := x) fun c hc => by
    obtain ⟨s, hs⟩ := h c hc
    exact ⟨s, by exact hs.1, trivial⟩
  exact ⟨l, e⟩
theorem ac_of {c : List LV} (h : QAct c) : ∃ a : Ac, c = acL a ∧ AcIn a := by
  obtain ⟨_, _, rfl, _, ⟨n, rfl, _⟩, _, _, rfl, _, h1, _, _, rfl, _, h2, _, _, rfl, _, ⟨es, rfl, h3, h4⟩, _, _, rfl, _, ⟨ts, rfl, h5, h6⟩, _, _, rfl, _, h7, rfl⟩ := h
  obtain ⟨u, rfl⟩ := vx_of h1
  obtain ⟨d, rfl⟩ := vx_of h2
  obtain ⟨b, rfl⟩ := hs_of h7
  obtain ⟨ids, rfl, _⟩ := Go.L.decode vxL (fun _ => True) (fun c hc => by obtain ⟨x, e⟩ := vx_of (h3 c hc); exact ⟨x, e, trivial⟩)
  obtain ⟨l, rfl⟩ := strs_of h5
  have := reach_lt
  rw [List.length_map] at h4 h6
  exact ⟨⟨n, u, d, ids, l, b⟩, by simp, by show ids.length < _; omega, by show l.length < _; omega⟩
end Go.Proofs.YtolpkeajokjbjaaDoor
namespace Go.Proofs.YtolpkeajokjbjaaDoor
open Go.RowKit Go.L Go.Lib
attribute [local irreducible] LL LW LO
abbrev gE (b : Nat) : Atom := .cells b 68 [.raw (.map none), .raw (.map none), i64 0]
def pvN (b i : Nat) : Value := if i = 0 then .pointer none else .pointer (some ⟨b, 0, none⟩)
set_option maxRecDepth 100000 in
theorem none_nil : LCalls Tryd.prog 33 [.raw (.pointer none)] [] (fun r H' => r = bl true ∧ H' = []) := by
  refine LCalls.of Tryd.func33 rfl Tryd.ntmps33 Tryd.results33 rfl (fun Rf => ?_)
  refine LW.seq ?_
  refine LW.region ?_
  refine X.u (LU.assignR Is.rfl') rfl ?_
  refine LL.nil (after_code ?_)
  refine LW.seq ?_
  refine LW.region ?_
  refine X.u (LU.moveR Is.rfl') rfl ?_
  refine X.u (LU.nilEqN Tryd.underlying23 Is.rfl' Is.rfl') rfl ?_
  refine X.u (LU.moveR Is.rfl') rfl ?_
  refine X.skipF rfl rfl rfl ?_
  refine X.skipF rfl rfl rfl ?_
  refine X.skipF rfl rfl rfl ?_
  refine X.skipF rfl rfl rfl ?_
  refine X.skipF rfl rfl rfl ?_
  refine X.u (LU.pickT Is.rfl' (by exact Is.rfl')) rfl ?_
  refine X.u (LU.assignR Is.rfl') rfl ?_
  refine LL.nil (after_code ?_)
  refine LW.ret (after_end ?_)
  refine X.ret (H' := []) (Res.one (by exact IsR rfl)) (by repeat (exact HSub.refl _)) ?_
  exact ⟨rfl, rfl⟩
set_option maxRecDepth 100000 in
theorem none_emp (b : Nat) : LCalls Tryd.prog 33 [pt b] [gE b] (fun r H' => r = bl true ∧ H' = [gE b]) := by
  refine LCalls.of Tryd.func33 rfl Tryd.ntmps33 Tryd.results33 rfl (fun Rf => ?_)
  refine LW.seq ?_
  refine LW.region ?_
  refine X.u (LU.assignR Is.rfl') rfl ?_
  refine LL.nil (after_code ?_)
  refine LW.seq ?_
  refine LW.region ?_
  refine X.u (LU.moveR Is.rfl') rfl ?_
  refine X.u (LU.nilEqS Tryd.underlying23 Is.rfl' Is.rfl') rfl ?_
  refine X.u (LU.moveR Is.rfl') rfl ?_
  refine X.doF rfl rfl (LU.moveR (by exact Is.rfl')) rfl ?_
  refine X.doF rfl rfl (LU.nilCheck (by exact Is.rfl')) rfl ?_
  refine X.doF rfl rfl (LU.fieldO Tryd.underlying68 rfl Tryd.sizeOf65 (by decide) (by exact Is.rfl')) rfl ?_
  refine X.doF rfl rfl (LU.loadO 0 rfl ⟨Tryd.sizeOf65, Tryd.isAgg65⟩ (by exact Is.rfl') (Part.one rfl)) rfl ?_
  refine X.doF rfl rfl (LU.nilMEqN Tryd.underlying65 (by exact Is.rfl') (by exact Is.rfl')) rfl ?_
  refine X.u (LU.pickF Is.rfl' (by exact Is.rfl')) rfl ?_
  refine X.u (LU.assignR Is.rfl') rfl ?_
  refine LL.nil (after_code ?_)
  refine LW.ret (after_end ?_)
  refine X.ret (H' := [gE b]) (Res.one (by exact IsR rfl)) (by repeat (exact HSub.refl _)) ?_
  exact ⟨rfl, rfl⟩
theorem none_pv (b i : Nat) : LCalls Tryd.prog 33 [.raw (pvN b i)] [gE b] (fun r H' => r = bl true ∧ H' = [gE b]) := by
  unfold pvN
  split
  · exact (none_nil.frame [gE b]).mono fun r H' ⟨H0, h1, h2, h3⟩ => ⟨h2, by rw [h1, h3]; rfl⟩
  · exact none_emp b
section
variable {p : Value} {H : List Atom} (hn : LCalls Tryd.prog 33 [.raw p] H (fun r H' => r = bl true ∧ H' = H))
include hn
set_option maxRecDepth 100000 in
theorem add_n (up down : Vx) (ids : List Vx) (ts : List (List UInt8)) (k1 k2 : Cap) : LCalls Tryd.prog 11 [.raw p, .agg (vxL up), .agg (vxL down), Vxs ids k1, .sl 1 (strsL ts) k2] H (fun r H' => r = i64 1 ∧ H' = H) := by
  refine LCalls.of Tryd.func11 rfl Tryd.ntmps11 Tryd.results11 rfl (fun Rf => ?_)
  refine LW.seq ?_
  refine LW.region ?_
  refine X.act (X.box rfl Is.rfl' (by exact Cells.agg) (fun b6 => ?_))
  refine X.act (X.box rfl Is.rfl' (by exact Cells.agg) (fun b7 => ?_))
  refine X.u (LU.assignR Is.rfl') rfl ?_
  refine LL.nil (after_code ?_)
  refine LW.seq ?_
  refine LW.block ?_
  refine LW.seq ?_
  refine LW.region ?_
  refine X.u (LU.moveR Is.rfl') rfl ?_
  refine X.u (LU.callP (show List.Perm _ (H ++ (.cells b7 35 (vxL down) :: .cells b6 35 (vxL up) :: Rf)) from perm_of fun x => (by simp only [List.count_append, List.count_cons, List.count_nil]; omega)) (hn) Tryd.func33 rfl rfl (Opds.cons Is.rfl' Opds.nil)) rfl ?_
  refine X.u (LU.assignR Is.rfl') rfl ?_
  refine LL.nil (after_code ?_)
  refine X.condT rfl ?_ ?_
  · rfl
  refine LW.seq ?_
  refine LW.region ?_
  refine X.u (LU.assignR Is.rfl') rfl ?_
  refine LL.nil (after_code ?_)
  refine LW.ret (ret_blk (ret_code (after_end ?_)))
  refine X.ret (H' := H) (Res.one (by exact IsR rfl)) (by repeat (first | exact HSub.refl _ | refine HSub.drop ?_)) ?_
  exact ⟨rfl, rfl⟩
set_option maxRecDepth 100000 in
theorem drop_n (ids : List Vx) (k1 : Cap) : LCalls Tryd.prog 22 [.raw p, Vxs ids k1] H (fun r H' => r = i64 1 ∧ H' = H) := by
  refine LCalls.of Tryd.func22 rfl Tryd.ntmps22 Tryd.results22 rfl (fun Rf => ?_)
  refine LW.seq ?_
  refine LW.region ?_
  refine X.u (LU.assignR Is.rfl') rfl ?_
  refine LL.nil (after_code ?_)
  refine LW.seq ?_
  refine LW.block ?_
  refine LW.seq ?_
  refine LW.region ?_
  refine X.u (LU.moveR Is.rfl') rfl ?_
  refine X.u (LU.callP (List.Perm.refl _) (hn) Tryd.func33 rfl rfl (Opds.cons Is.rfl' Opds.nil)) rfl ?_
  refine X.u (LU.assignR Is.rfl') rfl ?_
  refine LL.nil (after_code ?_)
  refine X.condT rfl ?_ ?_
  · rfl
  refine LW.seq ?_
  refine LW.region ?_
  refine X.u (LU.assignR Is.rfl') rfl ?_
  refine LL.nil (after_code ?_)
  refine LW.ret (ret_blk (ret_code (after_end ?_)))
  refine X.ret (H' := H) (Res.one (by exact IsR rfl)) (by repeat (exact HSub.refl _)) ?_
  exact ⟨rfl, rfl⟩
set_option maxRecDepth 100000 in
theorem wound_n (v : Vx) : LCalls Tryd.prog 30 [.raw p, .agg (vxL v)] H (fun r H' => r = i64 1 ∧ H' = H) := by
  refine LCalls.of Tryd.func30 rfl Tryd.ntmps30 Tryd.results30 rfl (fun Rf => ?_)
  refine LW.seq ?_
  refine LW.region ?_
  refine X.act (X.box rfl Is.rfl' (by exact Cells.agg) (fun b3 => ?_))
  refine X.u (LU.assignR Is.rfl') rfl ?_
  refine LL.nil (after_code ?_)
  refine LW.seq ?_
  refine LW.block ?_
  refine LW.seq ?_
  refine LW.region ?_
  refine X.u (LU.moveR Is.rfl') rfl ?_
  refine X.u (LU.callP (show List.Perm _ (H ++ (.cells b3 35 (vxL v) :: Rf)) from perm_of fun x => (by simp only [List.count_append, List.count_cons, List.count_nil]; omega)) (hn) Tryd.func33 rfl rfl (Opds.cons Is.rfl' Opds.nil)) rfl ?_
  refine X.u (LU.assignR Is.rfl') rfl ?_
  refine LL.nil (after_code ?_)
  refine X.condT rfl ?_ ?_
  · rfl
  refine LW.seq ?_
  refine LW.region ?_
  refine X.u (LU.assignR Is.rfl') rfl ?_
  refine LL.nil (after_code ?_)
  refine LW.ret (ret_blk (ret_code (after_end ?_)))
  refine X.ret (H' := H) (Res.one (by exact IsR rfl)) (by repeat (first | exact HSub.refl _ | refine HSub.drop ?_)) ?_
  exact ⟨rfl, rfl⟩
set_option maxRecDepth 100000 in
theorem kill_n (v : Vx) (h : Hs) : LCalls Tryd.prog 10 [.raw p, .agg (vxL v), .agg (hsL h)] H (fun r H' => r = i64 1 ∧ H' = H) := by
  have hvl := vxL_len v
  have hv32 : v.p.1.length = 32 := v.p.2
  refine LCalls.of Tryd.func10 rfl Tryd.ntmps10 Tryd.results10 rfl (fun Rf => ?_)
  refine LW.seq ?_
  refine LW.region ?_
  refine X.act (X.box rfl Is.rfl' (by exact Cells.agg) (fun b4 => ?_))
  refine X.act (X.box rfl Is.rfl' (by exact Cells.agg) (fun b5 => ?_))
  refine X.u (LU.assignR Is.rfl') rfl ?_
  refine LL.nil (after_code ?_)
  refine LW.seq ?_
  refine LW.seq ?_
  refine LW.region ?_
  refine X.u (LU.moveR Is.rfl') rfl ?_
  refine X.u (LU.loadO 1 rfl ⟨Tryd.sizeOf35, Tryd.isAgg35⟩ Is.rfl' (Part.whole (by assumption))) rfl ?_
  refine X.u (LU.callP (show List.Perm _ (H ++ (.cells b5 31 (hsL h) :: .cells b4 35 (vxL v) :: Rf)) from perm_of fun x => (by simp only [List.count_append, List.count_cons, List.count_nil]; omega)) ((wound_n hn v)) Tryd.func30 rfl rfl (Opds.cons Is.rfl' (Opds.cons Is.rfl' Opds.nil))) rfl ?_
  refine X.u (LU.assignR Is.rfl') rfl ?_
  refine LL.nil (after_code ?_)
  refine LW.seq ?_
  refine LW.region ?_
  refine X.u (LU.moveR Is.rfl') rfl ?_
  refine X.u (LU.neq Is.rfl' Is.rfl') rfl ?_
  refine LL.nil (after_code ?_)
  refine X.condT rfl ?_ ?_
  · rfl
  refine LW.seq ?_
  refine LW.region ?_
  refine X.u (LU.moveR Is.rfl') rfl ?_
  refine X.u (LU.assignR Is.rfl') rfl ?_
  refine LL.nil (after_code ?_)
  refine LW.ret (ret_code (after_end ?_))
  refine X.ret (H' := H) (Res.one (by exact IsR rfl)) (by repeat (first | exact HSub.refl _ | refine HSub.drop ?_)) ?_
  exact ⟨rfl, rfl⟩
set_option maxRecDepth 100000 in
theorem unkill_n (v : Vx) (h : Hs) : LCalls Tryd.prog 24 [.raw p, .agg (vxL v), .agg (hsL h)] H (fun r H' => r = i64 1 ∧ H' = H) := by
  have hvl := vxL_len v
  have hv32 : v.p.1.length = 32 := v.p.2
  refine LCalls.of Tryd.func24 rfl Tryd.ntmps24 Tryd.results24 rfl (fun Rf => ?_)
  refine LW.seq ?_
  refine LW.region ?_
  refine X.act (X.box rfl Is.rfl' (by exact Cells.agg) (fun b4 => ?_))
  refine X.act (X.box rfl Is.rfl' (by exact Cells.agg) (fun b5 => ?_))
  refine X.u (LU.assignR Is.rfl') rfl ?_
  refine LL.nil (after_code ?_)
  refine LW.seq ?_
  refine LW.seq ?_
  refine LW.region ?_
  refine X.u (LU.moveR Is.rfl') rfl ?_
  refine X.u (LU.loadO 1 rfl ⟨Tryd.sizeOf35, Tryd.isAgg35⟩ Is.rfl' (Part.whole (by assumption))) rfl ?_
  refine X.u (LU.callP (show List.Perm _ (H ++ (.cells b5 31 (hsL h) :: .cells b4 35 (vxL v) :: Rf)) from perm_of fun x => (by simp only [List.count_append, List.count_cons, List.count_nil]; omega)) ((wound_n hn v)) Tryd.func30 rfl rfl (Opds.cons Is.rfl' (Opds.cons Is.rfl' Opds.nil))) rfl ?_
  refine X.u (LU.assignR Is.rfl') rfl ?_
  refine LL.nil (after_code ?_)
  refine LW.seq ?_
  refine LW.region ?_
  refine X.u (LU.moveR Is.rfl') rfl ?_
  refine X.u (LU.neq Is.rfl' Is.rfl') rfl ?_
  refine LL.nil (after_code ?_)
  refine X.condT rfl ?_ ?_
  · rfl
  refine LW.seq ?_
  refine LW.region ?_
  refine X.u (LU.moveR Is.rfl') rfl ?_
  refine X.u (LU.assignR Is.rfl') rfl ?_
  refine LL.nil (after_code ?_)
  refine LW.ret (ret_code (after_end ?_))
  refine X.ret (H' := H) (Res.one (by exact IsR rfl)) (by repeat (first | exact HSub.refl _ | refine HSub.drop ?_)) ?_
  exact ⟨rfl, rfl⟩
set_option maxRecDepth 100000 in
theorem has_n (v : Vx) : LCalls Tryd.prog 20 [.raw p, .agg (vxL v)] H (fun r H' => r = bl false ∧ H' = H) := by
  refine LCalls.of Tryd.func20 rfl Tryd.ntmps20 Tryd.results20 rfl (fun Rf => ?_)
  refine LW.seq ?_
  refine LW.region ?_
  refine X.act (X.box rfl Is.rfl' (by exact Cells.agg) (fun b3 => ?_))
  refine X.u (LU.assignR Is.rfl') rfl ?_
  refine LL.nil (after_code ?_)
  refine LW.seq ?_
  refine LW.seq ?_
  refine LW.region ?_
  refine X.u (LU.moveR Is.rfl') rfl ?_
  refine X.u (LU.callP (show List.Perm _ (H ++ (.cells b3 35 (vxL v) :: Rf)) from perm_of fun x => (by simp only [List.count_append, List.count_cons, List.count_nil]; omega)) (hn) Tryd.func33 rfl rfl (Opds.cons Is.rfl' Opds.nil)) rfl ?_
  refine LL.nil (after_code ?_)
  refine X.condT rfl ?_ ?_
  · rfl
  refine LW.seq ?_
  refine LW.region ?_
  refine X.u (LU.assignR Is.rfl') rfl ?_
  refine LL.nil (after_code ?_)
  refine LW.ret (ret_code (after_end ?_))
  refine X.ret (H' := H) (Res.one (by exact IsR rfl)) (by repeat (first | exact HSub.refl _ | refine HSub.drop ?_)) ?_
  exact ⟨rfl, rfl⟩
set_option maxRecDepth 100000 in
theorem ahead_n (a b : Vx) : LCalls Tryd.prog 21 [.raw p, .agg (vxL a), .agg (vxL b)] H (fun r H' => r = bl false ∧ H' = H) := by
  have hal := vxL_len a
  have hbl := vxL_len b
  have ha32 : a.p.1.length = 32 := a.p.2
  have hb32 : b.p.1.length = 32 := b.p.2
  refine LCalls.of Tryd.func21 rfl Tryd.ntmps21 Tryd.results21 rfl (fun Rf => ?_)
  refine LW.seq ?_
  refine LW.region ?_
  refine X.act (X.box rfl Is.rfl' (by exact Cells.agg) (fun b4 => ?_))
  refine X.act (X.box rfl Is.rfl' (by exact Cells.agg) (fun b5 => ?_))
  refine X.u (LU.assignR Is.rfl') rfl ?_
  refine LL.nil (after_code ?_)
  refine LW.seq ?_
  refine LW.seq ?_
  refine LW.region ?_
  refine X.u (LU.moveR Is.rfl') rfl ?_
  refine X.u (LU.loadO 1 rfl ⟨Tryd.sizeOf35, Tryd.isAgg35⟩ Is.rfl' (Part.whole (by assumption))) rfl ?_
  refine X.u (LU.callP (show List.Perm _ (H ++ (.cells b5 35 (vxL b) :: .cells b4 35 (vxL a) :: Rf)) from perm_of fun x => (by simp only [List.count_append, List.count_cons, List.count_nil]; omega)) ((has_n hn a)) Tryd.func20 rfl rfl (Opds.cons Is.rfl' (Opds.cons Is.rfl' Opds.nil))) rfl ?_
  refine X.u (LU.not Is.rfl') rfl ?_
  refine X.u (LU.moveR Is.rfl') rfl ?_
  refine X.skipF rfl rfl rfl ?_
  refine X.skipF rfl rfl rfl ?_
  refine X.skipF rfl rfl rfl ?_
  refine X.skipF rfl rfl rfl ?_
  refine X.u (LU.pickT Is.rfl' (by exact Is.rfl')) rfl ?_
  refine LL.nil (after_code ?_)
  refine X.condT rfl ?_ ?_
  · rfl
  refine LW.seq ?_
  refine LW.region ?_
  refine X.u (LU.assignR Is.rfl') rfl ?_
  refine LL.nil (after_code ?_)
  refine LW.ret (ret_code (after_end ?_))
  refine X.ret (H' := H) (Res.one (by exact IsR rfl)) (by repeat (first | exact HSub.refl _ | refine HSub.drop ?_)) ?_
  exact ⟨rfl, rfl⟩
set_option maxRecDepth 100000 in
theorem len_n : LCalls Tryd.prog 19 [.raw p] H (fun r H' => r = i64 0 ∧ H' = H) := by
  refine LCalls.of Tryd.func19 rfl Tryd.ntmps19 Tryd.results19 rfl (fun Rf => ?_)
  refine LW.seq ?_
  refine LW.region ?_
  refine X.u (LU.assignR Is.rfl') rfl ?_
  refine LL.nil (after_code ?_)
  refine LW.seq ?_
  refine LW.seq ?_
  refine LW.region ?_
  refine X.u (LU.moveR Is.rfl') rfl ?_
  refine X.u (LU.callP (List.Perm.refl _) (hn) Tryd.func33 rfl rfl (Opds.cons Is.rfl' Opds.nil)) rfl ?_
  refine LL.nil (after_code ?_)
  refine X.condT rfl ?_ ?_
  · rfl
  refine LW.seq ?_
  refine LW.region ?_
  refine X.u (LU.assignR Is.rfl') rfl ?_
  refine LL.nil (after_code ?_)
  refine LW.ret (ret_code (after_end ?_))
  refine X.ret (H' := H) (Res.one (by exact IsR rfl)) (by repeat (exact HSub.refl _)) ?_
  exact ⟨rfl, rfl⟩
set_option maxRecDepth 100000 in
theorem shown_n : LCalls Tryd.prog 18 [.raw p] H (fun r H' => r = Shs [] .unk ∧ H' = H) := by
  refine LCalls.of Tryd.func18 rfl Tryd.ntmps18 Tryd.results18 rfl (fun Rf => ?_)
  refine LW.seq ?_
  refine LW.region ?_
  refine X.u (LU.assign (Is.nil 35)) rfl ?_
  refine LL.nil (after_code ?_)
  refine LW.seq ?_
  refine LW.seq ?_
  refine LW.region ?_
  refine X.u (LU.moveR Is.rfl') rfl ?_
  refine X.u (LU.callP (List.Perm.refl _) (hn) Tryd.func33 rfl rfl (Opds.cons Is.rfl' Opds.nil)) rfl ?_
  refine LL.nil (after_code ?_)
  refine X.condT rfl ?_ ?_
  · rfl
  refine LW.seq ?_
  refine LW.region ?_
  refine X.u (LU.assign (Is.nil 35)) rfl ?_
  refine LL.nil (after_code ?_)
  refine LW.ret (ret_code (after_end ?_))
  refine X.ret (H' := H) (Res.one Is.unk) (by repeat (exact HSub.refl _)) ?_
  exact ⟨rfl, rfl⟩
set_option maxRecDepth 100000 in
theorem text_n : LCalls Tryd.prog 13 [.raw p] H (fun r H' => r = .sl 1 (strsL []) .unk ∧ H' = H) := by
  refine LCalls.of Tryd.func13 rfl Tryd.ntmps13 Tryd.results13 rfl (fun Rf => ?_)
  refine LW.seq ?_
  refine LW.region ?_
  refine X.u (LU.assign (Is.nil 1)) rfl ?_
  refine LL.nil (after_code ?_)
  refine LW.seq ?_
  refine LW.region ?_
  refine X.u (LU.weak (LU.assign (Is.nil 1)) (Is.unk)) rfl ?_
  refine LL.nil (after_code ?_)
  refine LW.seq ?_
  refine LW.seq ?_
  refine LW.region ?_
  refine X.u (LU.moveR Is.rfl') rfl ?_
  refine X.u (LU.callP (List.Perm.refl _) ((shown_n hn)) Tryd.func18 rfl rfl (Opds.cons Is.rfl' Opds.nil)) rfl ?_
  refine X.u (LU.lenN Tryd.underlying45 Is.rfl' (by (simp only [Option.getD_some, Option.getD_none, byteEls_length, intEls_length, List.length_append, List.length_cons, List.length_nil, List.length_map, List.length_drop, List.length_take, Int.toNat_natCast]; rfl))) rfl ?_
  refine X.u (LU.moveR Is.rfl') rfl ?_
  refine LL.nil (after_code ?_)
  refine LW.block ?_
  refine X.loopK (α := Nat) (fun i => [(9, i64 i), (3, .sl 1 (strsL []) .unk)]) [2, 7, 8] (fun i => H ++ Rf) (fun i => i = 0) (fun i => 1 - i) (0) (EnvLe.cons (by rfl) (EnvLe.cons (by rfl) (EnvLe.nil))) (by repeat (exact HSub.refl _)) ?_ ?_
  · rfl
  · rintro i hI
    refine LW.seq ?_
    refine LW.region ?_
    refine X.u (LU.lss Is.rfl' Is.rfl') rfl ?_
    refine LL.nil (after_code ?_)
    refine LW.seq ?_
    refine X.cond rfl (fun h3 => ?_) (fun h3 => ?_)
    · exact absurd h3 (by rw [hI]; simp)
    · try have h3 := of_decide_eq_false h3
      refine LW.exit (exit_code (exit_rnd (exit_blk (after_code ?_))))
      refine LW.seq ?_
      refine LW.region ?_
      refine X.u (LU.moveS Is.rfl') rfl ?_
      refine X.u (LU.assignS Is.rfl') rfl ?_
      refine LL.nil (after_code ?_)
      refine LW.ret (after_end ?_)
      refine X.ret (H' := H) (Res.one (by exact IsS rfl)) (by repeat (exact HSub.refl _)) ?_
      exact ⟨rfl, rfl⟩
set_option maxRecDepth 100000 in
theorem conflicts_n : LCalls Tryd.prog 14 [.raw p] H (fun r H' => r = i64 0 ∧ H' = H) := by
  refine LCalls.of Tryd.func14 rfl Tryd.ntmps14 Tryd.results14 rfl (fun Rf => ?_)
  refine LW.seq ?_
  refine LW.region ?_
  refine X.u (LU.assignR Is.rfl') rfl ?_
  refine LL.nil (after_code ?_)
  refine LW.seq ?_
  refine LW.region ?_
  refine X.u (LU.weak (LU.assign (Is.nil 33)) (Is.unk)) rfl ?_
  refine LL.nil (after_code ?_)
  refine LW.seq ?_
  refine LW.seq ?_
  refine LW.region ?_
  refine X.u (LU.moveR Is.rfl') rfl ?_
  refine X.u (LU.callP (List.Perm.refl _) ((shown_n hn)) Tryd.func18 rfl rfl (Opds.cons Is.rfl' Opds.nil)) rfl ?_
  refine X.u (LU.lenN Tryd.underlying45 Is.rfl' (by (simp only [Option.getD_some, Option.getD_none, byteEls_length, intEls_length, List.length_append, List.length_cons, List.length_nil, List.length_map, List.length_drop, List.length_take, Int.toNat_natCast]; rfl))) rfl ?_
  refine X.u (LU.moveR Is.rfl') rfl ?_
  refine LL.nil (after_code ?_)
  refine LW.block ?_
  refine X.loopK (α := Nat) (fun i => [(14, i64 i), (3, Vxs [] .unk)]) [0, 2, 12, 13] (fun i => H ++ Rf) (fun i => i = 0) (fun i => 1 - i) (0) (EnvLe.cons (by rfl) (EnvLe.cons (by rfl) (EnvLe.nil))) (by repeat (exact HSub.refl _)) ?_ ?_
  · rfl
  · rintro i hI
    refine LW.seq ?_
    refine LW.region ?_
    refine X.u (LU.lss Is.rfl' Is.rfl') rfl ?_
    refine LL.nil (after_code ?_)
    refine LW.seq ?_
    refine X.cond rfl (fun h3 => ?_) (fun h3 => ?_)
    · exact absurd h3 (by rw [hI]; simp)
    · try have h3 := of_decide_eq_false h3
      refine LW.exit (exit_code (exit_rnd (exit_blk (after_code ?_))))
      refine LW.seq ?_
      refine LW.region ?_
      refine X.u (LU.assignR Is.rfl') rfl ?_
      refine LL.nil (after_code ?_)
      refine LW.seq ?_
      refine LW.seq ?_
      refine LW.region ?_
      refine X.u (LU.moveS Is.rfl') rfl ?_
      refine X.u (LU.lenN Tryd.underlying26 Is.rfl' (by (simp only [Option.getD_some, Option.getD_none, byteEls_length, intEls_length, List.length_append, List.length_cons, List.length_nil, List.length_map, List.length_drop, List.length_take, Int.toNat_natCast]; rfl))) rfl ?_
      refine X.u (LU.moveR Is.rfl') rfl ?_
      refine LL.nil (after_code ?_)
      refine LW.block ?_
      refine X.loopK (α := Nat) (fun i2 => [(29, i64 i2), (6, i64 0)]) [0, 2, 3, 27, 28] (fun i2 => H ++ Rf) (fun i2 => i2 = 0) (fun i2 => 1 - i2) (0) (EnvLe.cons (by rfl) (EnvLe.cons (by rfl) (EnvLe.nil))) (by repeat (exact HSub.refl _)) ?_ ?_
      · rfl
      · rintro i2 hI
        refine LW.seq ?_
        refine LW.region ?_
        refine X.u (LU.lss Is.rfl' Is.rfl') rfl ?_
        refine LL.nil (after_code ?_)
        refine LW.seq ?_
        refine X.cond rfl (fun h10 => ?_) (fun h10 => ?_)
        · exact absurd h10 (by rw [hI]; simp)
        · try have h10 := of_decide_eq_false h10
          refine LW.exit (exit_code (exit_rnd (exit_blk (after_code ?_))))
          refine LW.seq ?_
          refine LW.region ?_
          refine X.u (LU.moveR Is.rfl') rfl ?_
          refine X.u (LU.assignR Is.rfl') rfl ?_
          refine LL.nil (after_code ?_)
          refine LW.ret (after_end ?_)
          refine X.ret (H' := H) (Res.one (by exact IsR rfl)) (by repeat (exact HSub.refl _)) ?_
          exact ⟨rfl, rfl⟩
set_option maxRecDepth 100000 in
theorem cloneg_n : LCalls Tryd.prog 25 [.raw p] H (fun r H' => r = .raw (.pointer none) ∧ H' = H) := by
  refine LCalls.of Tryd.func25 rfl Tryd.ntmps25 Tryd.results25 rfl (fun Rf => ?_)
  refine LW.seq ?_
  refine LW.region ?_
  refine X.u (LU.assignR Is.rfl') rfl ?_
  refine LL.nil (after_code ?_)
  refine LW.seq ?_
  refine LW.seq ?_
  refine LW.region ?_
  refine X.u (LU.moveR Is.rfl') rfl ?_
  refine X.u (LU.callP (List.Perm.refl _) (hn) Tryd.func33 rfl rfl (Opds.cons Is.rfl' Opds.nil)) rfl ?_
  refine LL.nil (after_code ?_)
  refine X.condT rfl ?_ ?_
  · rfl
  refine LW.seq ?_
  refine LW.region ?_
  refine X.u (LU.assignR Is.rfl') rfl ?_
  refine LL.nil (after_code ?_)
  refine LW.ret (ret_code (after_end ?_))
  refine X.ret (H' := H) (Res.one (by exact IsR rfl)) (by repeat (exact HSub.refl _)) ?_
  exact ⟨rfl, rfl⟩
end
theorem pv_at {b i : Nat} (h : i < 2) : ([[LV.raw (.pointer none)], [LV.raw (.pointer (some ⟨b, 0, none⟩))]] : List (List LV))[(i : Int).toNat]? = some [.raw (pvN b i)] := by
  rw [Int.toNat_natCast]
  match i, h with
  | 0, _ => rfl
  | 1, _ => rfl
set_option maxHeartbeats 4000000 in
set_option maxRecDepth 100000 in
theorem nobody_law (a : Ac) : LCalls Tryd.prog 8 [.agg (acL a)] [kb] (fun r H' => r = .raw (.bool true) ∧ H' = [kb]) := by
  have hal := ac_len a
  have hau := a.up.p.2
  have had := a.down.p.2
  have hab := a.by_.2
  refine LCalls.of Tryd.func8 rfl Tryd.ntmps8 Tryd.results8 rfl (fun Rf => ?_)
  refine LW.seq ?_
  refine LW.region ?_
  refine X.act (X.box rfl Is.rfl' (by exact Cells.agg) (fun b1 => ?_))
  refine X.u (LU.assignR Is.rfl') rfl ?_
  refine LL.nil (after_code ?_)
  refine LW.seq ?_
  refine LW.seq ?_
  refine LW.region ?_
  refine X.u (LU.weak (LU.build (places := #[(0, 1), (1, 1), (2, 1)]) Tryd.underlying68 Tryd.zeroValue68 (ones rfl) (by intro w; simp [Tryd.sizeOf3, Tryd.sizeOf65, Tryd.sizeOf66]) Parts.nil rfl) (Is.of (y := .agg [.raw (.map none), .raw (.map none), i64 0]) (rfl))) rfl ?_
  refine X.act (X.box rfl Is.rfl' (by exact Cells.agg) (fun b6 => ?_))
  refine X.u (LU.weak (LU.lits Tryd.underlying69 Tryd.sizeOf23 Tryd.zeroValue23 (ones rfl) rfl (by decide) (by decide) (Elems.cons Is.rfl' (by exact Cells.raw rfl) (Elems.cons Is.rfl' (by exact Cells.raw rfl) Elems.nil)) (by (simp; done)) rfl) (Is.of (y := .sl 1 [[.raw (.pointer none)], [.raw (.pointer (some ⟨b6, 0, none⟩))]] .full) (rfl))) rfl ?_
  refine X.u (LU.lenN Tryd.underlying69 Is.rfl' (by (simp only [Option.getD_some, Option.getD_none, byteEls_length, intEls_length, List.length_append, List.length_cons, List.length_nil, List.length_map, List.length_drop, List.length_take, Int.toNat_natCast]; rfl))) rfl ?_
  refine X.u (LU.moveR Is.rfl') rfl ?_
  refine LL.nil (after_code ?_)
  refine LW.block ?_
  refine X.wghost (H' := gE b6 :: kb :: .cells b1 52 (acL a) :: Rf) (by repeat (first | exact HSub.refl _ | refine HSub.pick 0 rfl ?_ | refine HSub.pick 1 rfl ?_)) ?_
  refine X.loopK (α := Nat) (fun i => [(9, i64 i)]) [1, 7, 8] (fun i => gE b6 :: kb :: .cells b1 52 (acL a) :: Rf) (fun i => i ≤ 2) (fun i => 2 - i) (0) (EnvLe.cons (by rfl) (EnvLe.nil)) (by repeat (exact HSub.refl _)) ?_ ?_
  · exact Nat.zero_le _
  · rintro i hI
    refine LW.seq ?_
    refine LW.region ?_
    refine X.u (LU.lss Is.rfl' Is.rfl') rfl ?_
    refine LL.nil (after_code ?_)
    refine LW.seq ?_
    refine X.cond rfl (fun h2 => ?_) (fun h2 => ?_)
    · have h2 : i < 2 := by simp at h2; omega
      have hn := none_pv b6 i
      refine LW.skip (after_code ?_)
      refine LW.seq ?_
      refine LW.block ?_
      refine LW.seq ?_
      refine LW.region ?_
      refine X.u (LU.at Tryd.underlying69 ⟨Tryd.sizeOf23, Tryd.isAgg23⟩ Is.rfl' Is.rfl' (by omega) (pv_at h2) (by simp)) rfl ?_
      refine X.u (LU.load ⟨Tryd.sizeOf23, Tryd.isAgg23⟩ Is.rfl' (by (simp; done)) (Part.one rfl)) rfl ?_
      refine X.u (LU.assignR Is.rfl') rfl ?_
      refine LL.nil (after_code ?_)
      refine LW.seq ?_
      refine LW.seq ?_
      refine LW.region ?_
      refine X.u (LU.moveR Is.rfl') rfl ?_
      refine X.u (LU.fieldO Tryd.underlying52 rfl Tryd.sizeOf35 (by decide) Is.rfl') rfl ?_
      refine X.u (LU.weak (LU.loadO 2 rfl ⟨Tryd.sizeOf35, Tryd.isAgg35⟩ Is.rfl' (Part.sub (by (simp; omega)))) (Is.of (y := .agg (vxL a.up)) (congrArg LV.agg (ac_up a)))) rfl ?_
      refine X.u (LU.fieldO Tryd.underlying52 rfl Tryd.sizeOf35 (by decide) Is.rfl') rfl ?_
      refine X.u (LU.weak (LU.loadO 2 rfl ⟨Tryd.sizeOf35, Tryd.isAgg35⟩ Is.rfl' (Part.sub (by (simp; omega)))) (Is.of (y := .agg (vxL a.down)) (congrArg LV.agg (ac_down a)))) rfl ?_
      refine X.u (LU.fieldO Tryd.underlying52 rfl Tryd.sizeOf26 (by decide) Is.rfl') rfl ?_
      refine X.u (LU.loadO 2 rfl ⟨Tryd.sizeOf26, Tryd.isAgg26⟩ Is.rfl' (Part.one (ac_ids a))) rfl ?_
      refine X.u (LU.fieldO Tryd.underlying52 rfl Tryd.sizeOf25 (by decide) Is.rfl') rfl ?_
      refine X.u (LU.loadO 2 rfl ⟨Tryd.sizeOf25, Tryd.isAgg25⟩ Is.rfl' (Part.one (ac_texts a))) rfl ?_
      refine X.u (LU.callP (List.Perm.refl _) ((add_n hn a.up a.down a.ids a.texts .unk .unk)) Tryd.func11 rfl rfl (Opds.cons Is.rfl' (Opds.cons Is.rfl' (Opds.cons Is.rfl' (Opds.cons Is.rfl' (Opds.cons Is.rfl' Opds.nil)))))) rfl ?_
      refine X.u (LU.neq Is.rfl' Is.rfl') rfl ?_
      refine X.u (LU.moveR Is.rfl') rfl ?_
      refine X.doF rfl rfl (LU.moveR (by exact Is.rfl')) rfl ?_
      refine X.doF rfl rfl (LU.fieldO Tryd.underlying52 rfl Tryd.sizeOf26 (by decide) (by exact Is.rfl')) rfl ?_
      refine X.doF rfl rfl (LU.loadO 2 rfl ⟨Tryd.sizeOf26, Tryd.isAgg26⟩ (by exact Is.rfl') (Part.one (ac_ids a))) rfl ?_
      refine X.doF rfl rfl (LU.callP (List.Perm.refl _) ((drop_n hn a.ids .unk)) Tryd.func22 rfl rfl (Opds.cons (by exact Is.rfl') (Opds.cons (by exact Is.rfl') Opds.nil))) rfl ?_
      refine X.doF rfl rfl (LU.neq (by exact Is.rfl') (by exact Is.rfl')) rfl ?_
      refine X.u (LU.pickF Is.rfl' (by exact Is.rfl')) rfl ?_
      refine X.u (LU.moveR Is.rfl') rfl ?_
      refine X.doF rfl rfl (LU.moveR (by exact Is.rfl')) rfl ?_
      refine X.doF rfl rfl (LU.fieldO Tryd.underlying52 rfl Tryd.sizeOf35 (by decide) (by exact Is.rfl')) rfl ?_
      refine X.doF rfl rfl (LU.weak (LU.loadO 2 rfl ⟨Tryd.sizeOf35, Tryd.isAgg35⟩ (by exact Is.rfl') (Part.sub (by (simp; omega)))) (Is.of (y := .agg (vxL a.up)) (congrArg LV.agg (ac_up a)))) rfl ?_
      refine X.doF rfl rfl (LU.fieldO Tryd.underlying52 rfl Tryd.sizeOf31 (by decide) (by exact Is.rfl')) rfl ?_
      refine X.doF rfl rfl (LU.weak (LU.loadO 2 rfl ⟨Tryd.sizeOf31, Tryd.isAgg31⟩ (by exact Is.rfl') (Part.sub (by (simp; omega)))) (Is.of (y := .agg (hsL a.by_)) (congrArg LV.agg (ac_by a)))) rfl ?_
      refine X.doF rfl rfl (LU.callP (List.Perm.refl _) ((kill_n hn a.up a.by_)) Tryd.func10 rfl rfl (Opds.cons (by exact Is.rfl') (Opds.cons (by exact Is.rfl') (Opds.cons (by exact Is.rfl') Opds.nil)))) rfl ?_
      refine X.doF rfl rfl (LU.neq (by exact Is.rfl') (by exact Is.rfl')) rfl ?_
      refine X.u (LU.pickF Is.rfl' (by exact Is.rfl')) rfl ?_
      refine X.u (LU.moveR Is.rfl') rfl ?_
      refine X.doF rfl rfl (LU.moveR (by exact Is.rfl')) rfl ?_
      refine X.doF rfl rfl (LU.fieldO Tryd.underlying52 rfl Tryd.sizeOf35 (by decide) (by exact Is.rfl')) rfl ?_
      refine X.doF rfl rfl (LU.weak (LU.loadO 2 rfl ⟨Tryd.sizeOf35, Tryd.isAgg35⟩ (by exact Is.rfl') (Part.sub (by (simp; omega)))) (Is.of (y := .agg (vxL a.up)) (congrArg LV.agg (ac_up a)))) rfl ?_
      refine X.doF rfl rfl (LU.fieldO Tryd.underlying52 rfl Tryd.sizeOf31 (by decide) (by exact Is.rfl')) rfl ?_
      refine X.doF rfl rfl (LU.weak (LU.loadO 2 rfl ⟨Tryd.sizeOf31, Tryd.isAgg31⟩ (by exact Is.rfl') (Part.sub (by (simp; omega)))) (Is.of (y := .agg (hsL a.by_)) (congrArg LV.agg (ac_by a)))) rfl ?_
      refine X.doF rfl rfl (LU.callP (List.Perm.refl _) ((unkill_n hn a.up a.by_)) Tryd.func24 rfl rfl (Opds.cons (by exact Is.rfl') (Opds.cons (by exact Is.rfl') (Opds.cons (by exact Is.rfl') Opds.nil)))) rfl ?_
      refine X.doF rfl rfl (LU.neq (by exact Is.rfl') (by exact Is.rfl')) rfl ?_
      refine X.u (LU.pickF Is.rfl' (by exact Is.rfl')) rfl ?_
      refine LL.nil (after_code ?_)
      refine X.condF rfl ?_ ?_
      · rfl
      refine LW.skip (after_code ?_)
      refine LW.seq ?_
      refine LW.region ?_
      refine X.u (LU.moveR Is.rfl') rfl ?_
      refine X.u (LU.fieldO Tryd.underlying52 rfl Tryd.sizeOf35 (by decide) Is.rfl') rfl ?_
      refine X.u (LU.weak (LU.loadO 2 rfl ⟨Tryd.sizeOf35, Tryd.isAgg35⟩ Is.rfl' (Part.sub (by (simp; omega)))) (Is.of (y := .agg (vxL a.up)) (congrArg LV.agg (ac_up a)))) rfl ?_
      refine X.u (LU.callP (List.Perm.refl _) ((has_n hn a.up)) Tryd.func20 rfl rfl (Opds.cons Is.rfl' (Opds.cons Is.rfl' Opds.nil))) rfl ?_
      refine X.u (LU.moveR Is.rfl') rfl ?_
      refine X.doF rfl rfl (LU.moveR (by exact Is.rfl')) rfl ?_
      refine X.doF rfl rfl (LU.weak (LU.build (places := #[(0, 32), (32, 1)]) Tryd.underlying35 Tryd.zeroValue35 (ones rfl) (by intro w; simp [Tryd.sizeOf3, Tryd.sizeOf31]) Parts.nil rfl) (Is.of (y := .agg (vxL topV)) (rfl))) rfl ?_
      refine X.doF rfl rfl (LU.weak (LU.build (places := #[(0, 32), (32, 1)]) Tryd.underlying35 Tryd.zeroValue35 (ones rfl) (by intro w; simp [Tryd.sizeOf3, Tryd.sizeOf31]) (Parts.cons (by exact Is.rfl') (by exact Cells.raw rfl) Parts.nil) rfl) (Is.of (y := .agg (vxL botV)) (rfl))) rfl ?_
      refine X.doF rfl rfl (LU.callP (List.Perm.refl _) ((ahead_n hn topV botV)) Tryd.func21 rfl rfl (Opds.cons (by exact Is.rfl') (Opds.cons (by exact Is.rfl') (Opds.cons (by exact Is.rfl') Opds.nil)))) rfl ?_
      refine X.u (LU.pickF Is.rfl' (by exact Is.rfl')) rfl ?_
      refine X.u (LU.moveR Is.rfl') rfl ?_
      refine X.doF rfl rfl (LU.moveR (by exact Is.rfl')) rfl ?_
      refine X.doF rfl rfl (LU.callP (List.Perm.refl _) ((len_n hn)) Tryd.func19 rfl rfl (Opds.cons (by exact Is.rfl') Opds.nil)) rfl ?_
      refine X.doF rfl rfl (LU.moveR (by exact Is.rfl')) rfl ?_
      refine X.doF rfl rfl (LU.callP (List.Perm.refl _) ((shown_n hn)) Tryd.func18 rfl rfl (Opds.cons (by exact Is.rfl') Opds.nil)) rfl ?_
      refine X.doF rfl rfl (LU.weak (LU.lenN Tryd.underlying45 (by exact Is.rfl') (by (simp only [Option.getD_some, Option.getD_none, byteEls_length, intEls_length, List.length_append, List.length_cons, List.length_nil, List.length_map, List.length_drop, List.length_take, Int.toNat_natCast]; rfl))) (Is.of (y := i64 0) (congrArg i64 (by rfl)))) rfl ?_
      refine X.doF rfl rfl (LU.addN (by exact Is.rfl') (by exact Is.rfl') (wrap_i64 (by omega) (by omega))) rfl ?_
      refine X.doF rfl rfl (LU.moveR (by exact Is.rfl')) rfl ?_
      refine X.doF rfl rfl (LU.callP (List.Perm.refl _) ((text_n hn)) Tryd.func13 rfl rfl (Opds.cons (by exact Is.rfl') Opds.nil)) rfl ?_
      refine X.doF rfl rfl (LU.weak (LU.lenN Tryd.underlying25 (by exact Is.rfl') (by (simp only [Option.getD_some, Option.getD_none, byteEls_length, intEls_length, List.length_append, List.length_cons, List.length_nil, List.length_map, List.length_drop, List.length_take, Int.toNat_natCast]; rfl))) (Is.of (y := i64 0) (congrArg i64 (by rfl)))) rfl ?_
      refine X.doF rfl rfl (LU.addN (by exact Is.rfl') (by exact Is.rfl') (wrap_i64 (by omega) (by omega))) rfl ?_
      refine X.doF rfl rfl (LU.moveR (by exact Is.rfl')) rfl ?_
      refine X.doF rfl rfl (LU.callP (List.Perm.refl _) ((conflicts_n hn)) Tryd.func14 rfl rfl (Opds.cons (by exact Is.rfl') Opds.nil)) rfl ?_
      refine X.doF rfl rfl (LU.addN (by exact Is.rfl') (by exact Is.rfl') (wrap_i64 (by omega) (by omega))) rfl ?_
      refine X.doF rfl rfl (LU.neq (by exact Is.rfl') (by exact Is.rfl')) rfl ?_
      refine X.u (LU.pickF Is.rfl' (by exact Is.rfl')) rfl ?_
      refine X.u (LU.moveR Is.rfl') rfl ?_
      refine X.doF rfl rfl (LU.moveR (by exact Is.rfl')) rfl ?_
      refine X.doF rfl rfl (LU.callP (List.Perm.refl _) ((cloneg_n hn)) Tryd.func25 rfl rfl (Opds.cons (by exact Is.rfl') Opds.nil)) rfl ?_
      refine X.doF rfl rfl (LU.nilNeN Tryd.underlying23 (by exact Is.rfl') (by exact Is.rfl')) rfl ?_
      refine X.u (LU.pickF Is.rfl' (by exact Is.rfl')) rfl ?_
      refine LL.nil (after_code ?_)
      refine X.condF rfl ?_ ?_
      · rfl
      refine LW.skip (after_blk (after_code ?_))
      refine LW.region ?_
      refine X.u (LU.addN Is.rfl' Is.rfl' (wrap_i64 (by omega) (by omega))) rfl ?_
      refine X.u (LU.moveR Is.rfl') rfl ?_
      refine LL.nil (after_rnd ?_)
      refine X.next (i + 1) rfl (EnvLe.cons (by rfl) (EnvLe.nil)) (Keeps.cons (by exact Eq.trans (b := .raw _) rfl rfl) (Keeps.cons (by exact Eq.trans (b := .sl _ _ _) rfl rfl) (Keeps.cons (by exact Eq.trans (b := .raw _) rfl rfl) (Keeps.nil)))) (by repeat (exact HSub.refl _)) ?_ ?_
      · omega
      · omega
    · try have h2 := of_decide_eq_false h2
      refine LW.exit (exit_code (exit_rnd (exit_blk (after_code ?_))))
      refine LW.seq ?_
      refine LW.region ?_
      refine X.u (LU.call1 1 rfl (lives_calls) Tryd.func15 rfl rfl Opds.nil) rfl ?_
      refine X.u (LU.assignR Is.rfl') rfl ?_
      refine LL.nil (after_code ?_)
      refine LW.ret (after_end ?_)
      refine X.ret (H' := [kb]) (Res.one (by exact IsR rfl)) (by repeat (first | exact HSub.refl _ | refine HSub.pick 1 rfl ?_ | refine HSub.drop ?_)) ?_
      exact ⟨rfl, rfl⟩
theorem LinesNobody_row (x0 : List LV) (h0 : QAct x0) : LCalls Tryd.prog 8 [.agg x0] [kb] (fun r H' => r = .raw (.bool true) ∧ H' = [kb]) := by
  obtain ⟨a, rfl, _⟩ := ac_of h0
  exact nobody_law a
end Go.Proofs.YtolpkeajokjbjaaDoor
