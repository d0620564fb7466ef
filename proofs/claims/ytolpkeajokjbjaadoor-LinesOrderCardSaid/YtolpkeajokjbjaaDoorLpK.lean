/- Lines: the order: the walk. -/
import Derived.Test.YtolpkeajokjbjaaDoorLpJ
import Derived.Test.YtolpkeajokjbjaaDoorLgD
set_option linter.unusedVariables false
set_option linter.unusedSimpArgs false
namespace Go.Proofs.YtolpkeajokjbjaaDoor
open Go.RowKit Go.L Go.Lib
attribute [local irreducible] LL LW LO LP LA
abbrev gW (b : Nat) (W : List (Vx × Int)) : Atom := .map b (mp vxV (encM iE W))
theorem gW_set (b : Nat) (W : List (Vx × Int)) (k : Vx) (n : Int) : Atom.map b (mp vxV (setM (encM iE W) k (i64 n))) = gW b (setA W k n) := congrArg (fun z => Atom.map b (mp vxV z)) (set_enc iE W k n)
theorem Is.rawvx (a : Vx) : Is (.raw (vxV a)) (.agg (vxL a)) := by
  have h : vxL a = raws (vxs1 a) := by
    unfold raws vxs1
    rw [List.map_append, List.map_map]; rfl
  rw [h]
  refine Is.raw_agg fun v hv => ?_
  rcases List.mem_append.1 hv with e | e
  · obtain ⟨x, _, rfl⟩ := List.mem_map.1 e; rfl
  · rw [List.mem_singleton.1 e]; rfl
theorem sliced0A (A : Option Nat) (off n c : Nat) : sliced (A.map fun b => (⟨b, off, none⟩ : Addr)) 0 n c 33 = .slice (A.map fun b => ⟨b, off, none⟩) n c := by
  cases A with
  | some b => exact sliced0 b off n c
  | none =>
    unfold sliced
    by_cases h : c = 0
    · rw [if_pos h]; simp
    · rw [if_neg h]; simp
theorem OwnS.cut0 {size : Nat} {es : List (List LV)} {A : Option Nat} {off n c : Nat} {xs : List LV} (h : OwnS size es A off n c xs) : OwnS size [] A off 0 c xs :=
  ⟨rfl, Nat.zero_le _, h.len, by simp, by simp, h.nil⟩
theorem flat_at {size : Nat} : ∀ {es : List (List LV)} {i : Nat} {e : List LV}, (∀ e ∈ es, e.length = size) → es[i]? = some e → (es.flatten.drop (i * size)).take size = e
  | [], i, e, _, h => by simp at h
  | a :: es, 0, e, hs, h => by
    obtain rfl := Option.some.inj (show some a = some e from h)
    rw [Nat.zero_mul, List.drop_zero, List.flatten_cons, List.take_left' (hs a (by simp))]
  | a :: es, i + 1, e, hs, h => by
    have ha := hs a (by simp)
    rw [List.flatten_cons, Nat.succ_mul, Nat.add_comm, ← List.drop_drop, List.drop_left' ha]
    exact flat_at (fun e he => hs e (List.mem_cons_of_mem _ he)) (by simpa using h)
theorem own_at {size : Nat} {es : List (List LV)} {A : Option Nat} {off n c : Nat} {xs : List LV} (h : OwnS size es A off n c xs) {i : Nat} {e : List LV} (hi : es[i]? = some e) : (xs.drop (off + i * size)).take size = e := by
  have hil := (List.getElem?_eq_some_iff.1 hi).1
  have hf := flat_at h.sz hi
  rw [← h.cells, List.drop_take, List.take_take, List.drop_drop] at hf
  have hle : i * size + size ≤ n * size := by
    rw [← Nat.succ_mul]
    exact Nat.mul_le_mul_right _ (by rw [← h.cnt]; exact hil)
  rw [Nat.min_eq_left (by omega)] at hf
  exact hf
theorem own_some {size : Nat} {es : List (List LV)} {A : Option Nat} {off n c : Nat} {xs : List LV} (h : OwnS size es A off n c xs) (hn : 0 < n) : ∃ b, A = some b := by
  cases A with
  | none => have := h.nil rfl; have := h.le; omega
  | some b => exact ⟨b, rfl⟩
theorem ownA_drop : ∀ (A : Option Nat) (te : TypeId) (xs : List LV) (R : List Atom), HSub (ownA A te xs ++ R) R
  | none, _, _, R => HSub.refl _
  | some _, _, _, R => HSub.drop (HSub.refl _)
theorem run_len {r : Rg} (ho : Ok r) {out : List Vx} (hr : Run (Ee r) (Ss r) out) : out.length ≤ (idsG r.L).length := nodup_len hr.nodup hr.mem
set_option maxHeartbeats 8000000 in
set_option maxRecDepth 100000 in
theorem order_calls (g ma mb : Nat) (n : Int) (m : At) (q : Ps) (r : Rg) (hrel : Rel m q n r) (ho : Ok r) : LCalls Tryd.prog 39 [pt g] [gC g ma mb n, gA ma m, kb] (fun x H' => ∃ out, x = Vxs out .unk ∧ H' = [gC g ma mb n, gA ma m, kb] ∧ OrdR r out) := by
  have hkn : (m.map (·.1)).Nodup := hrel.knd ho
  have hlen := ho.len
  have hsz := hrel.sz ho
  have hbl := vxL_len botV
  have hpm : ∀ (i : Nat) (p : Vx × Ln), m[i]? = some p → lookA m p.1 = some p.2 := fun i p h => mem_look hkn (List.mem_of_getElem? h)
  refine LCalls.of Tryd.func39 rfl Tryd.ntmps39 Tryd.results39 rfl (fun Rf => ?_)
  refine LW.seq ?_
  refine LW.region ?_
  refine X.u (LU.assign (Is.nil 33)) rfl ?_
  refine LL.nil (after_code ?_)
  refine LW.scope (fun i s h => by exact no_goto i s h) ?_
  refine LW.seq ?_
  refine LW.region ?_
  refine X.u (LU.assign (Is.nil 33)) rfl ?_
  refine X.u (LU.assignR Is.rfl') rfl ?_
  refine X.u (LU.assignR Is.rfl') rfl ?_
  refine LL.nil (after_code ?_)
  refine LW.seq ?_
  refine LW.region ?_
  refine X.act (LO.makeMap (st := ⟨_, _, _⟩) rfl (fun b15 => ?_))
  refine X.u (LU.assignR Is.rfl') rfl ?_
  refine LL.nil (after_code ?_)
  refine LW.seq ?_
  refine LW.seq ?_
  refine LW.region ?_
  refine X.u (LU.moveR Is.rfl') rfl ?_
  refine X.u (LU.nilCheck Is.rfl') rfl ?_
  refine X.u (LU.fieldO Tryd.underlying68 rfl Tryd.sizeOf65 (by decide) Is.rfl') rfl ?_
  refine X.u (LU.loadO 1 rfl ⟨Tryd.sizeOf65, Tryd.isAgg65⟩ Is.rfl' (Part.one rfl)) rfl ?_
  refine X.act (LO.rangeMap (st := ⟨_, _, _⟩) 2 rfl rfl Tryd.underlying65 Is.rfl' (fun b20 => ?_))
  refine LL.nil (after_code ?_)
  refine LW.block ?_
  refine X.loopK (α := List Nat × List (Vx × Int)) (fun ⟨seen, W⟩ => []) [0, 2, 3, 4, 5, 6, 20] (fun ⟨seen, W⟩ => .mapr ma b20 (mp vxV (encM lnE m)) seen :: gW b15 W :: gC g ma mb n :: kb :: Rf) (fun ⟨seen, W⟩ => (∀ i ∈ seen, i < m.length) ∧ ∀ i ∈ seen, ∀ p, m[i]? = some p → lookA W p.1 = some ((p.2.prev.length : Nat) : Int)) (fun ⟨seen, W⟩ => unseen m.length seen) (([], [])) (EnvLe.nil) (by repeat (exact HSub.refl _)) ?_ ?_
  · exact ⟨(fun i hi => by cases hi), (fun i hi => by cases hi)⟩
  · rintro ⟨seen, W⟩ hI
    obtain ⟨hsl, hsb⟩ := hI
    refine LW.seq ?_
    refine LW.region ?_
    refine X.act (LO.nextMap (st := ⟨_, _, _⟩) 0 rfl rfl Is.rfl' (fun i21 kv21 hi21 hn21 => ?_) (fun hall21 => ?_))
    · refine X.u (LU.extract Is.rfl' rfl) rfl ?_
      refine LL.nil (after_code ?_)
      refine LW.seq ?_
      refine X.condT rfl ?_ ?_
      · rfl
      refine LW.skip (after_code ?_)
      refine LW.block ?_
      refine LW.seq ?_
      obtain ⟨p, hp, rfl⟩ := ent_at hi21
      have hil2 := (List.getElem?_eq_some_iff.1 hp).1
      have hmu := unseen_lt hil2 hn21
      have hpl := vxL_len p.1
      have hp32 : p.1.p.1.length = 32 := p.1.p.2
      refine LW.region ?_
      refine X.u (LU.entryMap 0 rfl (by assumption) Is.rfl') rfl ?_
      refine X.u (LU.weak (LU.extract Is.rfl' rfl) (Is.rawvx p.1)) rfl ?_
      refine X.u (LU.extract Is.rfl' rfl) rfl ?_
      refine X.act (X.alloc rfl Tryd.zeroValue35 (by exact Cells.rawagg (by decide)) (fun b7 => ?_))
      refine X.act (X.alloc rfl Tryd.zeroValue73 (by exact Cells.rawagg (by decide)) (fun b8 => ?_))
      refine X.act (X.store 1 rfl Tryd.sizeOf35 Is.rfl' Is.rfl' (by exact Cells.agg) (by assumption) (by exact Nat.le_of_ble_eq_true rfl) ?_)
      refine X.act (X.store 1 rfl Tryd.sizeOf73 Is.rfl' Is.rfl' (by exact Cells.agg) (by (simp; done)) (by exact Nat.le_of_ble_eq_true rfl) ?_)
      refine LL.nil (after_code ?_)
      refine X.wcells (ys := lnL p.2) rfl ?_
      refine X.wghost (H' := .cells b8 73 (lnL p.2) :: .cells b7 35 (putAt (raws z35.cells.toList) 0 (vxL p.1)) :: .mapr ma b20 (mp vxV (encM lnE m)) (seen ++ [i21]) :: gW b15 W :: gC g ma mb n :: kb :: Rf) (by repeat (exact HSub.refl _)) ?_
      rw [putAt_all (by rw [hpl]; rfl)]
      refine LW.region ?_
      refine X.u (LU.moveR Is.rfl') rfl ?_
      refine X.u (LU.weak (LU.loadO 1 rfl ⟨Tryd.sizeOf35, Tryd.isAgg35⟩ Is.rfl' (Part.sub (by (simp; omega)))) (Is.of (y := .agg (vxL p.1)) (congrArg LV.agg (by rw [List.drop_zero, List.take_of_length_le (by rw [hpl]; exact Nat.le_refl _)])))) rfl ?_
      refine X.u (LU.fieldO Tryd.underlying73 rfl Tryd.sizeOf26 (by decide) Is.rfl') rfl ?_
      refine X.u (LU.loadO 0 rfl ⟨Tryd.sizeOf26, Tryd.isAgg26⟩ Is.rfl' (Part.one rfl)) rfl ?_
      refine X.u (LU.weak (LU.lenN Tryd.underlying26 Is.rfl' (by (simp only [Option.getD_some, Option.getD_none, byteEls_length, intEls_length, List.length_append, List.length_cons, List.length_nil, List.length_map, List.length_drop, List.length_take, Int.toNat_natCast]; rfl))) (Is.of (y := i64 ((p.2.prev.length : Nat) : Int)) (congrArg i64 (by rfl)))) rfl ?_
      refine X.act (LO.mapUpdate (st := ⟨_, _, _⟩) 3 (KeyOk.vx vxty) rfl Tryd.underlying87 Is.rfl' (by exact Is.vx _) Is.rfl' ?_)
      refine LL.nil (after_blk (after_rnd ?_))
      refine X.next ((seen ++ [i21], setA W p.1 ((p.2.prev.length : Nat) : Int))) rfl (EnvLe.nil) (Keeps.cons (by exact Eq.trans (b := .raw _) rfl rfl) (Keeps.cons (by exact Eq.trans (b := .sl _ _ _) rfl rfl) (Keeps.cons (by exact Eq.trans (b := .sl _ _ _) rfl rfl) (Keeps.cons (by exact Eq.trans (b := .raw _) rfl rfl) (Keeps.cons (by exact Eq.trans (b := .raw _) rfl rfl) (Keeps.cons (by exact Eq.trans (b := .raw _) rfl rfl) (Keeps.cons (by exact Eq.trans (b := .raw _) rfl rfl) (Keeps.nil)))))))) (by show L.HSub _ (.mapr ma b20 (mp vxV (encM lnE m)) (seen ++ [i21]) :: gW b15 (setA W p.1 ((p.2.prev.length : Nat) : Int)) :: gC g ma mb n :: kb :: Rf); rw [← gW_set]; exact (by repeat (first | exact HSub.refl _ | refine HSub.pick 0 rfl ?_ | refine HSub.pick 2 rfl ?_ | refine HSub.pick 3 rfl ?_ | refine HSub.drop ?_))) ?_ ?_
      · refine ⟨fun i hi => ?_, fun i hi p' hp' => ?_⟩
        · rcases List.mem_append.1 hi with h | h
          · exact hsl i h
          · rw [List.mem_singleton.1 h]; exact hil2
        · rw [look_setA]
          have h1 := hpm i p' hp'
          by_cases c : p.1 = p'.1
          · rw [if_pos c]
            have h2 := hpm _ p hp
            rw [c, h1] at h2
            rw [Option.some.inj h2]
          · rw [if_neg c]
            rcases List.mem_append.1 hi with h | h
            · exact hsb i h p' hp'
            · rw [List.mem_singleton.1 h, hp] at hp'
              exact absurd (by rw [Option.some.inj hp']) c
      · omega
    · refine X.u (LU.extract Is.rfl' rfl) rfl ?_
      refine LL.nil (after_code ?_)
      refine LW.seq ?_
      refine X.condF rfl ?_ ?_
      · rfl
      refine LW.exit (exit_code (exit_rnd (exit_blk (after_code ?_))))
      refine LW.seq ?_
      have hall : ∀ v ∈ topV :: botV :: idsG r.L, lookA W v = some (((pvE (Er r) v).length : Nat) : Int) := fun v hv => by
        obtain ⟨p, hp, rfl⟩ := List.mem_map.1 (hrel.keys.mem_iff.2 hv)
        obtain ⟨i, hi⟩ := List.getElem?_of_mem hp
        rw [hsb i (hall21 i (by rw [mp_len]; exact (List.getElem?_eq_some_iff.1 hi).1)) p hi, ← hrel.prev]
        unfold atG
        rw [hpm i p hi]; rfl
      have hKO0 := KO.first ho hall
      refine X.wghost (H' := gW b15 W :: gC g ma mb n :: gA ma m :: kb :: Rf) (HSub.trans (HSub.ranged _ _ _ _ _) (by repeat (first | exact HSub.refl _ | refine HSub.pick 1 rfl ?_))) ?_
      refine X.wweak (t := 3) (v := Vxs [] (.tok 0 0 0)) (Is.full_tok 0 0) ?_
      refine X.wghost (HSub.tail0 0 0 0 (Nat.le_refl _) _) ?_
      refine LW.region ?_
      refine X.u (LU.weak (LU.build (places := #[(0, 32), (32, 1)]) Tryd.underlying35 Tryd.zeroValue35 (ones rfl) (by intro w; simp [Tryd.sizeOf3, Tryd.sizeOf31]) Parts.nil rfl) (Is.of (y := .agg (vxL topV)) (rfl))) rfl ?_
      refine X.act (X.alloc rfl Tryd.zeroValue35 (by exact Cells.rawagg (by decide)) (fun b9 => ?_))
      refine X.act (X.store 0 rfl Tryd.sizeOf35 Is.rfl' Is.rfl' (by exact Cells.agg) (by (simp; done)) (by exact Nat.le_of_ble_eq_true rfl) ?_)
      refine LL.nil (after_code ?_)
      refine LW.seq ?_
      refine LW.label (after_code ?_)
      refine LW.seq ?_
      refine LW.block ?_
      rw [putAt_all (by rw [vxL_len]; rfl)]
      refine X.wghost (H' := .tail 0 0 0 :: gW b15 W :: .cells b9 35 (vxL topV) :: gC g ma mb n :: gA ma m :: kb :: Rf) (by repeat (first | exact HSub.refl _ | refine HSub.pick 1 rfl ?_)) ?_
      refine X.loopK (α := List Vx × List (Vx × Int) × List Vx × List Vx × Option Nat × TypeId × Nat × Nat × Nat × List LV × Option Nat × TypeId × Nat × Nat × Nat × List LV × Nat × Nat × Nat) (fun ⟨out, W0, R, Nr, An, ten, offn, nn, cn, xsn, Ar, ter, offr, nr, cr, xsr, b, o, e⟩ => [(3, Vxs out (.tok b o e)), (4, ownV Ar offr nr cr), (5, ownV An offn nn cn)]) [0, 2, 6, 9] (fun ⟨out, W0, R, Nr, An, ten, offn, nn, cn, xsn, Ar, ter, offr, nr, cr, xsr, b, o, e⟩ => .tail b o e :: gW b15 W0 :: .cells b9 35 (vxL (lastO out)) :: gC g ma mb n :: gA ma m :: kb :: (ownA An ten xsn ++ (ownA Ar ter xsr ++ Rf))) (fun ⟨out, W0, R, Nr, An, ten, offn, nn, cn, xsn, Ar, ter, offr, nr, cr, xsr, b, o, e⟩ => Run (Ee r) (Ss r) out ∧ KO r out W0 R ∧ OwnS 33 (vxs R) Ar offr nr cr xsr ∧ OwnS 33 (vxs Nr) An offn nn cn xsn) (fun ⟨out, W0, R, Nr, An, ten, offn, nn, cn, xsn, Ar, ter, offr, nr, cr, xsr, b, o, e⟩ => (idsG r.L).length - out.length) (([], W, [], [], none, 0, 0, 0, 0, [], none, 0, 0, 0, 0, [], 0, 0, 0)) (EnvLe.cons (by rfl) (EnvLe.cons (by rfl) (EnvLe.cons (by rfl) (EnvLe.nil)))) (by repeat (exact HSub.refl _)) ?_ ?_
      · exact ⟨Run.nil, hKO0, OwnS.none 33, OwnS.none 33⟩
      · rintro ⟨out, W0, R, Nr, An, ten, offn, nn, cn, xsn, Ar, ter, offr, nr, cr, xsr, b, o, e⟩ hI
        obtain ⟨hrun, hKO, owr, own⟩ := hI
        have hll := vxL_len (lastO out)
        have hl32 : (lastO out).p.1.length = 32 := (lastO out).p.2
        have hl32s : (out.getLast?.getD topV).p.1.length = 32 := (out.getLast?.getD topV).p.2
        have hol := run_len ho hrun
        have own0 : OwnS 33 (vxs []) An offn 0 cn xsn := OwnS.cut0 own
        have hnle := own.le
        obtain ⟨x, hx⟩ : ∃ x, x = atG m (lastO out) := ⟨_, rfl⟩
        have hxn : x.next = nxE (Er r) (lastO out) := by rw [hx]; exact hrel.next _
        have hxi : Is ((lookM (encM lnE m) (lastO out)).getD (.raw z73)) (lnE x) := by rw [hx]; exact at_is m _
        have hxl : x.next.length ≤ 1025 := by rw [hx]; exact (hsz _).1
        have hKI0 := hKO.opened ho hrun
        rw [← hxn] at hKI0
        refine LW.block ?_
        refine LW.seq ?_
        refine LW.region ?_
        refine X.u (LU.moveR Is.rfl') rfl ?_
        refine X.u (LU.weak (LU.sliceR (l := none) (h := some (0 : Int)) Tryd.sizeOf35 Tryd.underlying26 Is.rfl' trivial ⟨_, Is.rfl'⟩ (by simp) (by simp) (by simp) (by omega)) (Is.of (y := ownV An offn 0 cn) (congrArg LV.raw ((sliced0A An offn _ _).trans (by simp))))) rfl ?_
        refine X.u (LU.assignR Is.rfl') rfl ?_
        refine LL.nil (after_code ?_)
        refine LW.seq ?_
        refine LW.seq ?_
        refine X.drawM 9 rfl (by kernel_rfl) rfl ?_
        refine QD.u (LU.moveR Is.rfl') rfl ?_
        refine QD.u (LU.nilCheck Is.rfl') rfl ?_
        refine QD.u (LU.fieldO Tryd.underlying68 rfl Tryd.sizeOf65 (by decide) Is.rfl') rfl ?_
        refine QD.u (LU.loadO 3 rfl ⟨Tryd.sizeOf65, Tryd.isAgg65⟩ Is.rfl' (Part.one rfl)) rfl ?_
        refine QD.u (LU.loadO 2 rfl ⟨Tryd.sizeOf35, Tryd.isAgg35⟩ Is.rfl' (Part.whole (by assumption))) rfl ?_
        refine QD.u (LU.weak (LU.lookup 4 (KeyOk.vx vxty) rfl Tryd.underlying65 Tryd.zeroValue73 Is.rfl' (by exact Is.vx _)) (hxi)) rfl ?_
        refine QD.u (LU.field Tryd.underlying73 rfl ⟨Tryd.sizeOf26, Tryd.isAgg26⟩ Is.rfl' (Part.one rfl)) rfl ?_
        refine QD.u (LU.lenN Tryd.underlying26 Is.rfl' (by (simp only [Option.getD_some, Option.getD_none, byteEls_length, intEls_length, List.length_append, List.length_cons, List.length_nil, List.length_map, List.length_drop, List.length_take, Int.toNat_natCast]; rfl))) rfl ?_
        refine QD.u (LU.moveR Is.rfl') rfl ?_
        refine QD.nil ?_
        refine LL.nil (after_code ?_)
        refine LW.block ?_
        refine X.wghost (H' := gW b15 W0 :: .cells b9 35 (vxL (lastO out)) :: .tail b o e :: gC g ma mb n :: gA ma m :: kb :: (ownA An ten xsn ++ (ownA Ar ter xsr ++ Rf))) (by repeat (first | exact HSub.refl _ | refine HSub.pick 1 rfl ?_)) ?_
        refine X.loopK (α := Nat × List (Vx × Int) × List Vx × Option Nat × TypeId × Nat × Nat × Nat × List LV) (fun ⟨j, W2, R2, Ar2, ter2, offr2, nr2, cr2, xsr2⟩ => [(42, i64 j), (4, ownV Ar2 offr2 nr2 cr2)]) [0, 2, 3, 5, 6, 9, 40, 41] (fun ⟨j, W2, R2, Ar2, ter2, offr2, nr2, cr2, xsr2⟩ => gW b15 W2 :: .cells b9 35 (vxL (lastO out)) :: .tail b o e :: gC g ma mb n :: gA ma m :: kb :: (ownA An ten xsn ++ (ownA Ar2 ter2 xsr2 ++ Rf))) (fun ⟨j, W2, R2, Ar2, ter2, offr2, nr2, cr2, xsr2⟩ => j ≤ x.next.length ∧ KI r out (x.next.drop j) W2 R2 ∧ OwnS 33 (vxs R2) Ar2 offr2 nr2 cr2 xsr2) (fun ⟨j, W2, R2, Ar2, ter2, offr2, nr2, cr2, xsr2⟩ => x.next.length - j) ((0, W0, R, Ar, ter, offr, nr, cr, xsr)) (EnvLe.cons (by rfl) (EnvLe.cons (by rfl) (EnvLe.nil))) (by repeat (exact HSub.refl _)) ?_ ?_
        · exact ⟨Nat.zero_le _, hKI0, owr⟩
        · rintro ⟨j, W2, R2, Ar2, ter2, offr2, nr2, cr2, xsr2⟩ hI
          obtain ⟨hj, hKI, owr2⟩ := hI
          have hnR2 : R2.length = nr2 := by have := owr2.cnt; rwa [List.length_map] at this
          have hRl2 : R2.length ≤ 512 := Nat.le_trans (nodup_len hKI.nd fun y hy => ((hKI.r y).1 hy).1) hlen
          refine LW.seq ?_
          refine LW.region ?_
          refine X.u (LU.lss Is.rfl' Is.rfl') rfl ?_
          refine LL.nil (after_code ?_)
          refine LW.seq ?_
          refine X.cond rfl (fun h10 => ?_) (fun h10 => ?_)
          · try have h10 := of_decide_eq_true h10
            refine LW.skip (after_code ?_)
            refine LW.seq ?_
            refine LW.block ?_
            refine LW.seq ?_
            obtain ⟨w, hw⟩ := at_lt (show j < x.next.length by omega)
            have hwl := vxL_len w
            have hw32 : w.p.1.length = 32 := w.p.2
            have hwn : w ∈ nxE (Er r) (lastO out) := by rw [← hxn]; exact List.mem_of_getElem? hw
            obtain ⟨hwo, hwk⟩ := next_new ho hrun hwn
            have hwt : w ≠ topV := fun c => by rw [c] at hwn; exact ho.to_top (nxE_mem.1 hwn)
            rw [drop_at hw] at hKI
            obtain ⟨hw1, hKI2⟩ := hKI.step ho hwo hwk hwt
            have hw1l : remE r w (topV :: out) + (x.next.drop (j + 1)).count w ≤ 3000 := by
              have q1 := remE_le r w (topV :: out)
              have q2 := List.count_le_length (l := x.next.drop (j + 1)) (a := w)
              rw [List.length_drop] at q2
              have q3 := (hsz w).2
              rw [hrel.prev] at q3
              omega
            obtain ⟨w1, hw1d⟩ : ∃ w1, w1 = remE r w (topV :: out) + (x.next.drop (j + 1)).count w := ⟨_, rfl⟩
            rw [← hw1d] at hw1 hKI2 hw1l
            have hget : (lookM (encM iE W2) w).getD (.raw (.int .i64 0)) = i64 ((w1 + 1 : Nat) : Int) := by rw [look_enc, hw1]; rfl
            have hget2 : (lookM (encM iE (setA W2 w (w1 : Nat))) w).getD (.raw (.int .i64 0)) = i64 (w1 : Nat) := by rw [look_enc, look_setA, if_pos rfl]; rfl
            refine LW.region ?_
            refine X.u (LU.at Tryd.underlying26 ⟨Tryd.sizeOf35, Tryd.isAgg35⟩ Is.rfl' Is.rfl' (by omega) (vxs_at hw) (vx_ne w)) rfl ?_
            refine X.u (LU.weak (LU.load ⟨Tryd.sizeOf35, Tryd.isAgg35⟩ Is.rfl' (by assumption) (Part.whole (by assumption))) (Is.of (y := .agg (vxL w)) (rfl))) rfl ?_
            refine X.act (X.alloc rfl Tryd.zeroValue35 (by exact Cells.rawagg (by decide)) (fun b11 => ?_))
            refine X.act (X.store 0 rfl Tryd.sizeOf35 Is.rfl' Is.rfl' (by exact Cells.agg) (by assumption) (by exact Nat.le_of_ble_eq_true rfl) ?_)
            refine LL.nil (after_code ?_)
            refine LW.seq ?_
            refine X.wcells (ys := vxL w) (putAt_all (by rw [hwl]; rfl)) ?_
            refine X.wghost (H' := gW b15 W2 :: .cells b11 35 (vxL w) :: .cells b9 35 (vxL (lastO out)) :: .tail b o e :: gC g ma mb n :: gA ma m :: kb :: (ownA An ten xsn ++ (ownA Ar2 ter2 xsr2 ++ Rf))) (by repeat (first | exact HSub.refl _ | refine HSub.pick 1 rfl ?_)) ?_
            refine LW.invM (m := 6) (γ := Nat × Nat) [(0, 46), (1, 47), (2, 48), (3, 49), (4, 50), (5, 51)] (fun g_ d => match g_ with | ⟨s_, q_⟩ => match d with | 46 => .raw (.map (some b15)) | 47 => .agg (vxL w) | 48 => i64 ((w1 + 1 : Nat) : Int) | 49 => i64 (w1 : Nat) | 50 => .tup [i64 ((w1 + 1 : Nat) : Int), i64 (s_ : Nat)] | 51 => i64 (q_ : Nat) | _ => .any) (fun g_ f => match g_ with | ⟨s_, q_⟩ => cond (f 4) (.mape b15 (mp vxV (entM (encM iE W2) w (.raw (.int .i64 0)))) (entI (encM iE W2) w) (cond (f 5) q_ s_)) (gW b15 W2) :: .cells b11 35 (vxL w) :: .cells b9 35 (vxL (lastO out)) :: .tail b o e :: gC g ma mb n :: gA ma m :: kb :: (ownA An ten xsn ++ (ownA Ar2 ter2 xsr2 ++ Rf))) (0, 0) rfl (by kernel_rfl) rfl rfl ((HSub.refl _)) ?_ ?_
            · intro i hi f g_ hfi hdir hdown
              obtain ⟨s_, q_⟩ := g_
              have hc : i = 0 ∨ i = 1 ∨ i = 2 ∨ i = 3 ∨ i = 4 ∨ i = 5 := by omega
              rcases hc with rfl | rfl | rfl | rfl | rfl | rfl
              · refine ⟨_, rfl, ?_⟩
                refine A.u (LU.moveR Is.rfl') rfl ?_
                refine ⟨⟨s_, q_⟩, Weaker.mk' ?_ (HSub.refl _)⟩
                refine env_back0 (envS_hit (sl := [(0, 46), (1, 47), (2, 48), (3, 49), (4, 50), (5, 51)]) (j := 0) (d := 46) rfl (fun _ _ h => h))  (envS_next ?_)
                · intro p hp hne; simp only [List.mem_cons, List.not_mem_nil, or_false] at hp; rcases hp with rfl | rfl | rfl | rfl | rfl | rfl <;> first | exact absurd rfl hne | exact ⟨rfl, rfl⟩
              · refine ⟨_, rfl, ?_⟩
                refine A.u (LU.loadO 1 rfl ⟨Tryd.sizeOf35, Tryd.isAgg35⟩ Is.rfl' (Part.whole (by assumption))) rfl ?_
                refine ⟨⟨s_, q_⟩, Weaker.mk' ?_ (HSub.refl _)⟩
                refine env_back0 (envS_hit (sl := [(0, 46), (1, 47), (2, 48), (3, 49), (4, 50), (5, 51)]) (j := 1) (d := 47) rfl (fun _ _ h => h))  (envS_next ?_)
                · intro p hp hne; simp only [List.mem_cons, List.not_mem_nil, or_false] at hp; rcases hp with rfl | rfl | rfl | rfl | rfl | rfl <;> first | exact absurd rfl hne | exact ⟨rfl, rfl⟩
              · have d0 := hdir 0 (List.mem_of_elem_eq_true (by kernel_rfl))
                have d1 := hdir 1 (List.mem_of_elem_eq_true (by kernel_rfl))
                refine ⟨_, rfl, ?_⟩
                refine LP.weak (t := 46) (v := .raw (.map (some b15))) (envS_is (j := 0) rfl d0) ?_
                refine LP.weak (t := 47) (v := .agg (vxL w)) (envS_is (j := 1) rfl d1) ?_
                refine A.u (LU.weak (LU.lookupC 0 (KeyOk.vx vxty) rfl Tryd.underlying87 Tryd.zeroValue3 Is.rfl' (Is.vx _)) (Is.of (y := i64 ((w1 + 1 : Nat) : Int)) (hget))) rfl ?_
                refine ⟨⟨s_, q_⟩, Weaker.mk' ?_ (HSub.refl _)⟩
                refine env_back2 (envS_hit (sl := [(0, 46), (1, 47), (2, 48), (3, 49), (4, 50), (5, 51)]) (j := 2) (d := 48) rfl (fun _ _ h => h)) (envS_hit (sl := [(0, 46), (1, 47), (2, 48), (3, 49), (4, 50), (5, 51)]) (j := 1) (d := 47) rfl (fun _ _ h => h)) (envS_hit (sl := [(0, 46), (1, 47), (2, 48), (3, 49), (4, 50), (5, 51)]) (j := 0) (d := 46) rfl (fun _ _ h => h)) (envS_next ?_)
                · intro p hp hne; simp only [List.mem_cons, List.not_mem_nil, or_false] at hp; rcases hp with rfl | rfl | rfl | rfl | rfl | rfl <;> first | exact absurd rfl hne | exact ⟨rfl, rfl⟩
              · have d2 := hdir 2 (List.mem_of_elem_eq_true (by kernel_rfl))
                refine ⟨_, rfl, ?_⟩
                refine LP.weak (t := 48) (v := i64 ((w1 + 1 : Nat) : Int)) (envS_is (j := 2) rfl d2) ?_
                refine A.u (LU.weak (LU.sub Is.rfl' Is.rfl') (Is.of (y := i64 (w1 : Nat)) (congrArg i64 ((wrap_i64 (by omega) (by omega)).trans (by omega))))) rfl ?_
                refine ⟨⟨s_, q_⟩, Weaker.mk' ?_ (HSub.refl _)⟩
                refine env_back1 (envS_hit (sl := [(0, 46), (1, 47), (2, 48), (3, 49), (4, 50), (5, 51)]) (j := 3) (d := 49) rfl (fun _ _ h => h)) (envS_hit (sl := [(0, 46), (1, 47), (2, 48), (3, 49), (4, 50), (5, 51)]) (j := 2) (d := 48) rfl (fun _ _ h => h)) (envS_next ?_)
                · intro p hp hne; simp only [List.mem_cons, List.not_mem_nil, or_false] at hp; rcases hp with rfl | rfl | rfl | rfl | rfl | rfl <;> first | exact absurd rfl hne | exact ⟨rfl, rfl⟩
              · have d0 := hdir 0 (List.mem_of_elem_eq_true (by kernel_rfl))
                have d1 := hdir 1 (List.mem_of_elem_eq_true (by kernel_rfl))
                refine ⟨_, rfl, ?_⟩
                have h6 : f 5 = false := Bool.eq_false_iff.2 (fun h => by rw [hdown 5 (by omega) h 4 (List.mem_of_elem_eq_true (by kernel_rfl))] at hfi; cases hfi)
                refine LP.ghost (H' := gW b15 W2 :: .cells b11 35 (vxL w) :: .cells b9 35 (vxL (lastO out)) :: .tail b o e :: gC g ma mb n :: gA ma m :: kb :: (ownA An ten xsn ++ (ownA Ar2 ter2 xsr2 ++ Rf))) (by rw [hfi]; exact HSub.refl _) ?_
                refine LP.weak (t := 46) (v := .raw (.map (some b15))) (envS_is (j := 0) rfl d0) ?_
                refine LP.weak (t := 47) (v := .agg (vxL w)) (envS_is (j := 1) rfl d1) ?_
                refine A.act (LO.mapEntry (st := ⟨_, _, _⟩) 0 rfl (KeyOk.vx vxty) rfl Tryd.underlying87 Tryd.zeroValue3 Is.rfl' (by exact Is.vx _) (fun s50 => ?_))
                refine ⟨(s50, q_), Weaker.mk' ?_ (by show L.HSub _ (.mape b15 (mp vxV (entM (encM iE W2) w (.raw (.int .i64 0)))) (entI (encM iE W2) w) (cond (f 5) q_ s50) :: _); rw [h6]; exact HSub.refl _)⟩
                refine env_back2 (envS_hit (sl := [(0, 46), (1, 47), (2, 48), (3, 49), (4, 50), (5, 51)]) (j := 4) (d := 50) rfl (Is.of (congrArg (fun z => LV.tup [z, i64 (s50 : Nat)]) hget))) (envS_hit (sl := [(0, 46), (1, 47), (2, 48), (3, 49), (4, 50), (5, 51)]) (j := 1) (d := 47) rfl (fun _ _ h => h)) (envS_hit (sl := [(0, 46), (1, 47), (2, 48), (3, 49), (4, 50), (5, 51)]) (j := 0) (d := 46) rfl (fun _ _ h => h)) (envS_next ?_)
                · intro p hp hne; simp only [List.mem_cons, List.not_mem_nil, or_false] at hp; rcases hp with rfl | rfl | rfl | rfl | rfl | rfl <;> first | exact absurd rfl hne | exact ⟨rfl, rfl⟩
              · have d4 := hdir 4 (List.mem_of_elem_eq_true (by kernel_rfl))
                refine ⟨_, rfl, ?_⟩
                refine LP.weak (t := 50) (v := .tup [i64 ((w1 + 1 : Nat) : Int), i64 (s_ : Nat)]) (envS_is (j := 4) rfl d4) ?_
                refine A.u (LU.extract Is.rfl' rfl) rfl ?_
                refine ⟨(s_, s_), Weaker.mk' ?_ (by show L.HSub (cond (f 4) (.mape b15 (mp vxV (entM (encM iE W2) w (.raw (.int .i64 0)))) (entI (encM iE W2) w) (cond (f 5) q_ s_)) (gW b15 W2) :: _) (cond (f 4) (.mape b15 (mp vxV (entM (encM iE W2) w (.raw (.int .i64 0)))) (entI (encM iE W2) w) s_) (gW b15 W2) :: _); rw [hfi]; exact HSub.refl _)⟩
                refine env_back1 (envS_hit (sl := [(0, 46), (1, 47), (2, 48), (3, 49), (4, 50), (5, 51)]) (j := 5) (d := 51) rfl (fun _ _ h => h)) (envS_hit (sl := [(0, 46), (1, 47), (2, 48), (3, 49), (4, 50), (5, 51)]) (j := 4) (d := 50) rfl (fun _ _ h => h)) (envS_next ?_)
                · intro p hp hne; simp only [List.mem_cons, List.not_mem_nil, or_false] at hp; rcases hp with rfl | rfl | rfl | rfl | rfl | rfl <;> first | exact absurd rfl hne | exact ⟨rfl, rfl⟩
            · intro g_ f hf_
              obtain ⟨s_, q_⟩ := g_
              refine X.ghost (H' := .mape b15 (mp vxV (entM (encM iE W2) w (.raw (.int .i64 0)))) (entI (encM iE W2) w) q_ :: .cells b11 35 (vxL w) :: .cells b9 35 (vxL (lastO out)) :: .tail b o e :: gC g ma mb n :: gA ma m :: kb :: (ownA An ten xsn ++ (ownA Ar2 ter2 xsr2 ++ Rf))) (by show L.HSub (cond (f 4) (.mape b15 (mp vxV (entM (encM iE W2) w (.raw (.int .i64 0)))) (entI (encM iE W2) w) (cond (f 5) q_ s_)) _ :: _) _; rw [hf_ 4 (by omega), hf_ 5 (by omega)]; exact HSub.refl _) ?_
              refine X.act (X.entryStore 0 rfl Is.rfl' Is.rfl' Is.rfl' ?_)
              refine LL.nil (after_code ?_)
              refine LW.seq ?_
              refine X.wghost (H' := gW b15 (setA W2 w (w1 : Nat)) :: .cells b11 35 (vxL w) :: .cells b9 35 (vxL (lastO out)) :: .tail b o e :: gC g ma mb n :: gA ma m :: kb :: (ownA An ten xsn ++ (ownA Ar2 ter2 xsr2 ++ Rf))) (by rw [← gW_set]; exact (by repeat (exact HSub.refl _))) ?_
              refine LW.region ?_
              refine X.u (LU.moveR Is.rfl') rfl ?_
              refine X.u (LU.loadO 1 rfl ⟨Tryd.sizeOf35, Tryd.isAgg35⟩ Is.rfl' (Part.whole (by assumption))) rfl ?_
              refine X.u (LU.weak (LU.lookup 0 (KeyOk.vx vxty) rfl Tryd.underlying87 Tryd.zeroValue3 Is.rfl' (by exact Is.vx _)) (Is.of (y := i64 (w1 : Nat)) (hget2))) rfl ?_
              refine X.u (LU.eql Is.rfl' Is.rfl') rfl ?_
              refine X.u (LU.moveR Is.rfl') rfl ?_
              refine X.gT rfl rfl (fun hg => LU.loadO 1 rfl ⟨Tryd.sizeOf35, Tryd.isAgg35⟩ (by exact Is.rfl') (Part.whole (by assumption))) rfl ?_
              refine X.gT rfl rfl (fun hg => LU.loadK 6 rfl ⟨Tryd.sizeOf35, Tryd.isAgg35⟩ (by exact Is.rfl') (by decide) (by decide) (Part.whole (by (simp; done)))) rfl ?_
              refine X.gT rfl rfl (fun hg => LU.neqVx vxty (by exact Is.whenE hg) (by exact Is.whenE hg)) rfl ?_
              refine X.u (LU.pickAnd Is.rfl' (fun hq => (by exact Is.whenE hq)) Is.rfl') rfl ?_
              refine LL.nil (after_code ?_)
              refine X.cond rfl (fun h13 => ?_) (fun h13 => ?_)
              · have h13 : w1 = 0 ∧ w ≠ botV := by simpa using h13
                rw [if_pos h13] at hKI2
                refine LW.region ?_
                refine X.u (LU.moveR Is.rfl') rfl ?_
                refine X.u (LU.loadO 1 rfl ⟨Tryd.sizeOf35, Tryd.isAgg35⟩ Is.rfl' (Part.whole (by assumption))) rfl ?_
                refine X.u (LU.lits Tryd.underlying26 Tryd.sizeOf35 Tryd.zeroValue35 (ones rfl) rfl (by decide) (by decide) (Elems.cons Is.rfl' (by exact Cells.agg) Elems.nil) (by (simp; assumption)) rfl) rfl ?_
                refine X.act (X.appendR owr2 (hswap (ownA Ar2 ter2 xsr2) Rf ([gW b15 (setA W2 w (w1 : Nat)), .cells b11 35 (vxL w), .cells b9 35 (vxL (lastO out)), .tail b o e, gC g ma mb n, gA ma m, kb] ++ ownA An ten xsn)) rfl Tryd.underlying26 (El.of (P := Tryd.prog) (z := z35) (size := 33) (bytes := 40) rfl rfl rfl) (ones rfl) Is.rfl' Is.rfl' (SrcL.slice Tryd.underlying26 (by decide) (vxs_size [w])) (by simp) (by simp; omega) (by simp; omega) (fun b64 te64 off64 c64 xs64 ow64 => ?_))
                refine LL.ghost (H' := gW b15 (setA W2 w (w1 : Nat)) :: .cells b11 35 (vxL w) :: .cells b9 35 (vxL (lastO out)) :: .tail b o e :: gC g ma mb n :: gA ma m :: kb :: (ownA An ten xsn ++ (ownA (some b64) te64 xs64 ++ Rf))) (hpush _ Rf ([gW b15 (setA W2 w (w1 : Nat)), .cells b11 35 (vxL w), .cells b9 35 (vxL (lastO out)), .tail b o e, gC g ma mb n, gA ma m, kb] ++ ownA An ten xsn)) ?_
                refine X.u (LU.assignR Is.rfl') rfl ?_
                refine LL.nil (after_blk (after_code ?_))
                refine LW.region ?_
                refine X.u (LU.addN Is.rfl' Is.rfl' (wrap_i64 (by omega) (by omega))) rfl ?_
                refine X.u (LU.moveR Is.rfl') rfl ?_
                refine LL.nil (after_rnd ?_)
                refine X.next ((j + 1, setA W2 w (w1 : Nat), R2 ++ [w], some b64, te64, off64, nr2 + 1, c64, xs64)) rfl (EnvLe.cons (by rfl) (EnvLe.cons (by rfl) (EnvLe.nil))) (Keeps.cons (by exact Eq.trans (b := .raw _) rfl rfl) (Keeps.cons (by exact Eq.trans (b := .sl _ _ _) rfl rfl) (Keeps.cons (by exact Eq.trans (b := .sl _ _ _) rfl rfl) (Keeps.cons (by exact Eq.trans (b := .raw _) rfl rfl) (Keeps.cons (by exact Eq.trans (b := .raw _) rfl rfl) (Keeps.cons (by exact Eq.trans (b := .raw _) rfl rfl) (Keeps.cons (by exact Eq.trans (b := .sl _ _ _) rfl rfl) (Keeps.cons (by exact Eq.trans (b := .raw _) rfl rfl) (Keeps.nil))))))))) (by repeat (first | exact HSub.refl _ | refine HSub.pick 0 rfl ?_ | refine HSub.pick 1 rfl ?_ | refine HSub.drop ?_)) ?_ ?_
                · exact ⟨by omega, hKI2, by rw [← vxs_app]; exact ow64⟩
                · (simp; omega)
              · have h13 : ¬ (w1 = 0 ∧ w ≠ botV) := by simpa using h13
                rw [if_neg h13] at hKI2
                refine LW.skip (after_blk (after_code ?_))
                refine LW.region ?_
                refine X.u (LU.addN Is.rfl' Is.rfl' (wrap_i64 (by omega) (by omega))) rfl ?_
                refine X.u (LU.moveR Is.rfl') rfl ?_
                refine LL.nil (after_rnd ?_)
                refine X.next ((j + 1, setA W2 w (w1 : Nat), R2, Ar2, ter2, offr2, nr2, cr2, xsr2)) rfl (EnvLe.cons (by rfl) (EnvLe.cons (by rfl) (EnvLe.nil))) (Keeps.cons (by exact Eq.trans (b := .raw _) rfl rfl) (Keeps.cons (by exact Eq.trans (b := .sl _ _ _) rfl rfl) (Keeps.cons (by exact Eq.trans (b := .sl _ _ _) rfl rfl) (Keeps.cons (by exact Eq.trans (b := .raw _) rfl rfl) (Keeps.cons (by exact Eq.trans (b := .raw _) rfl rfl) (Keeps.cons (by exact Eq.trans (b := .raw _) rfl rfl) (Keeps.cons (by exact Eq.trans (b := .sl _ _ _) rfl rfl) (Keeps.cons (by exact Eq.trans (b := .raw _) rfl rfl) (Keeps.nil))))))))) (by repeat (first | exact HSub.refl _ | refine HSub.pick 0 rfl ?_ | refine HSub.pick 1 rfl ?_ | refine HSub.drop ?_)) ?_ ?_
                · exact ⟨by omega, hKI2, owr2⟩
                · (simp; omega)
          · try have h10 := of_decide_eq_false h10
            refine LW.exit (exit_code (exit_rnd (exit_blk (after_code ?_))))
            refine LW.seq ?_
            refine LW.seq ?_
            have hjl : j = x.next.length := by omega
            rw [hjl, List.drop_length] at hKI
            have hRdy := hKI.done ho
            refine X.wghost (H' := ownA Ar2 ter2 xsr2 ++ (gW b15 W2 :: .cells b9 35 (vxL (lastO out)) :: .tail b o e :: gC g ma mb n :: gA ma m :: kb :: (ownA An ten xsn ++ Rf))) (hswap (ownA Ar2 ter2 xsr2) Rf ([gW b15 W2, .cells b9 35 (vxL (lastO out)), .tail b o e, gC g ma mb n, gA ma m, kb] ++ ownA An ten xsn)) ?_
            refine LW.region ?_
            refine X.u (LU.moveR Is.rfl') rfl ?_
            refine X.u (LU.lenO Tryd.underlying26 Is.rfl') rfl ?_
            refine X.u (LU.moveR Is.rfl') rfl ?_
            refine LL.nil (after_code ?_)
            refine LW.block ?_
            refine X.loopK (α := Nat × List Vx × Option Nat × TypeId × Nat × Nat × Nat × List LV) (fun ⟨i, Nr2, An2, ten2, offn2, nn2, cn2, xsn2⟩ => [(68, i64 i), (5, ownV An2 offn2 nn2 cn2)]) [0, 2, 3, 4, 6, 9, 66, 67] (fun ⟨i, Nr2, An2, ten2, offn2, nn2, cn2, xsn2⟩ => ownA Ar2 ter2 xsr2 ++ (gW b15 W2 :: .cells b9 35 (vxL (lastO out)) :: .tail b o e :: gC g ma mb n :: gA ma m :: kb :: (ownA An2 ten2 xsn2 ++ Rf))) (fun ⟨i, Nr2, An2, ten2, offn2, nn2, cn2, xsn2⟩ => i ≤ R2.length ∧ Nr2 = (R2.take i).filter (fun y => decide (y ∈ x.next)) ∧ OwnS 33 (vxs Nr2) An2 offn2 nn2 cn2 xsn2) (fun ⟨i, Nr2, An2, ten2, offn2, nn2, cn2, xsn2⟩ => R2.length - i) ((0, [], An, ten, offn, 0, cn, xsn)) (EnvLe.cons (by rfl) (EnvLe.cons (by rfl) (EnvLe.nil))) (by repeat (exact HSub.refl _)) ?_ ?_
            · exact ⟨Nat.zero_le _, by simp, own0⟩
            · rintro ⟨i, Nr2, An2, ten2, offn2, nn2, cn2, xsn2⟩ hI
              obtain ⟨hi, hNr, own2⟩ := hI
              have hnN2 : Nr2.length = nn2 := by have := own2.cnt; rwa [List.length_map] at this
              have hNl2 : Nr2.length ≤ i := by
                rw [hNr]
                refine Nat.le_trans (List.length_filter_le _ _) ?_
                rw [List.length_take]; omega
              refine LW.seq ?_
              refine LW.region ?_
              refine X.u (LU.lss Is.rfl' Is.rfl') rfl ?_
              refine LL.nil (after_code ?_)
              refine LW.seq ?_
              refine X.cond rfl (fun h17 => ?_) (fun h17 => ?_)
              · try have h17 := of_decide_eq_true h17
                refine LW.skip (after_code ?_)
                refine LW.seq ?_
                refine LW.block ?_
                refine LW.seq ?_
                obtain ⟨w, hw⟩ := at_lt (show i < R2.length by omega)
                have hwl := vxL_len w
                have hw32 : w.p.1.length = 32 := w.p.2
                obtain ⟨bA, rfl⟩ := own_some owr2 (by omega)
                have hwa := own_at owr2 (show (vxs R2)[i]? = some (vxL w) by rw [List.getElem?_map, hw]; rfl)
                have howl := owr2.len
                have howle := owr2.le
                have hbd : offr2 + i * 33 + 33 ≤ xsr2.length := by omega
                refine LW.region ?_
                refine X.u (LU.atO Tryd.underlying26 Tryd.sizeOf35 Is.rfl' Is.rfl' (by omega) (by omega)) rfl ?_
                refine X.u (LU.weak (LU.loadO 0 rfl ⟨Tryd.sizeOf35, Tryd.isAgg35⟩ Is.rfl' (Part.sub (by (simp; omega)))) (Is.of (y := .agg (vxL w)) (congrArg LV.agg hwa))) rfl ?_
                refine X.act (X.alloc rfl Tryd.zeroValue35 (by exact Cells.rawagg (by decide)) (fun b13 => ?_))
                refine X.act (X.store 0 rfl Tryd.sizeOf35 Is.rfl' Is.rfl' (by exact Cells.agg) (by assumption) (by exact Nat.le_of_ble_eq_true rfl) ?_)
                refine LL.nil (after_code ?_)
                refine LW.seq ?_
                refine X.wcells (ys := vxL w) (putAt_all (by rw [hwl]; rfl)) ?_
                refine X.drawM 9 rfl (by kernel_rfl) rfl ?_
                refine QD.u (LU.moveR Is.rfl') rfl ?_
                refine QD.u (LU.nilCheck Is.rfl') rfl ?_
                refine QD.u (LU.fieldO Tryd.underlying68 rfl Tryd.sizeOf65 (by decide) Is.rfl') rfl ?_
                refine QD.u (LU.loadO 5 rfl ⟨Tryd.sizeOf65, Tryd.isAgg65⟩ Is.rfl' (Part.one rfl)) rfl ?_
                refine QD.u (LU.loadO 3 rfl ⟨Tryd.sizeOf35, Tryd.isAgg35⟩ Is.rfl' (Part.whole (by assumption))) rfl ?_
                refine QD.u (LU.weak (LU.lookup 6 (KeyOk.vx vxty) rfl Tryd.underlying65 Tryd.zeroValue73 Is.rfl' (by exact Is.vx _)) (hxi)) rfl ?_
                refine QD.u (LU.field Tryd.underlying73 rfl ⟨Tryd.sizeOf26, Tryd.isAgg26⟩ Is.rfl' (Part.one rfl)) rfl ?_
                refine QD.u (LU.loadO 0 rfl ⟨Tryd.sizeOf35, Tryd.isAgg35⟩ Is.rfl' (Part.whole (by assumption))) rfl ?_
                refine QD.u (LU.call (contains_calls x.next .unk w (by omega)) Tryd.func40 rfl rfl (Opds.cons Is.rfl' (Opds.cons Is.rfl' Opds.nil))) rfl ?_
                refine QD.nil ?_
                refine LL.nil (after_code ?_)
                refine X.cond rfl (fun h19 => ?_) (fun h19 => ?_)
                · have h19 : w ∈ x.next := by simpa using h19
                  have hz0 : (0 : Nat) = 0 := rfl
                  refine LW.region ?_
                  refine X.u (LU.moveR Is.rfl') rfl ?_
                  refine X.u (LU.loadO 0 rfl ⟨Tryd.sizeOf35, Tryd.isAgg35⟩ Is.rfl' (Part.whole (by assumption))) rfl ?_
                  refine X.u (LU.lits Tryd.underlying26 Tryd.sizeOf35 Tryd.zeroValue35 (ones rfl) rfl (by decide) (by decide) (Elems.cons Is.rfl' (by exact Cells.agg) Elems.nil) (by (simp; assumption)) rfl) rfl ?_
                  refine X.act (X.appendR own2 (hswap (ownA An2 ten2 xsn2) Rf [.cells b13 35 (vxL w), .cells bA ter2 xsr2, gW b15 W2, .cells b9 35 (vxL (lastO out)), .tail b o e, gC g ma mb n, gA ma m, kb]) rfl Tryd.underlying26 (El.of (P := Tryd.prog) (z := z35) (size := 33) (bytes := 40) rfl rfl rfl) (ones rfl) Is.rfl' Is.rfl' (SrcL.slice Tryd.underlying26 (by decide) (vxs_size [w])) (by simp) (by simp; omega) (by simp; omega) (fun b84 te84 off84 c84 xs84 ow84 => ?_))
                  refine LL.ghost (H' := .cells b13 35 (vxL w) :: .cells bA ter2 xsr2 :: gW b15 W2 :: .cells b9 35 (vxL (lastO out)) :: .tail b o e :: gC g ma mb n :: gA ma m :: kb :: (ownA (some b84) te84 xs84 ++ Rf)) (hpush _ Rf [.cells b13 35 (vxL w), .cells bA ter2 xsr2, gW b15 W2, .cells b9 35 (vxL (lastO out)), .tail b o e, gC g ma mb n, gA ma m, kb]) ?_
                  refine X.u (LU.assignR Is.rfl') rfl ?_
                  refine LL.nil (after_blk (after_code ?_))
                  refine LW.region ?_
                  refine X.u (LU.addN Is.rfl' Is.rfl' (wrap_i64 (by omega) (by omega))) rfl ?_
                  refine X.u (LU.moveR Is.rfl') rfl ?_
                  refine LL.nil (after_rnd ?_)
                  refine X.next ((i + 1, Nr2 ++ [w], some b84, te84, off84, nn2 + 1, c84, xs84)) rfl (EnvLe.cons (by rfl) (EnvLe.cons (by rfl) (EnvLe.nil))) (Keeps.cons (by exact Eq.trans (b := .raw _) rfl rfl) (Keeps.cons (by exact Eq.trans (b := .sl _ _ _) rfl rfl) (Keeps.cons (by exact Eq.trans (b := .sl _ _ _) rfl rfl) (Keeps.cons (by exact Eq.trans (b := .raw _) rfl rfl) (Keeps.cons (by exact Eq.trans (b := .raw _) rfl rfl) (Keeps.cons (by exact Eq.trans (b := .raw _) rfl rfl) (Keeps.cons (by exact Eq.trans (b := .raw _) rfl rfl) (Keeps.cons (by exact Eq.trans (b := .raw _) rfl rfl) (Keeps.nil))))))))) (by repeat (first | exact HSub.refl _ | refine HSub.pick 1 rfl ?_ | refine HSub.drop ?_)) ?_ ?_
                  · exact ⟨by omega, by rw [take_snoc hw, List.filter_append, ← hNr, List.filter_cons, if_pos (decide_eq_true h19)]; rfl, by rw [← vxs_app]; exact ow84⟩
                  · (simp; omega)
                · have h19 : w ∉ x.next := by simpa using h19
                  have hz0 : (0 : Nat) = 0 := rfl
                  refine LW.skip (after_blk (after_code ?_))
                  refine LW.region ?_
                  refine X.u (LU.addN Is.rfl' Is.rfl' (wrap_i64 (by omega) (by omega))) rfl ?_
                  refine X.u (LU.moveR Is.rfl') rfl ?_
                  refine LL.nil (after_rnd ?_)
                  refine X.next ((i + 1, Nr2, An2, ten2, offn2, nn2, cn2, xsn2)) rfl (EnvLe.cons (by rfl) (EnvLe.cons (by rfl) (EnvLe.nil))) (Keeps.cons (by exact Eq.trans (b := .raw _) rfl rfl) (Keeps.cons (by exact Eq.trans (b := .sl _ _ _) rfl rfl) (Keeps.cons (by exact Eq.trans (b := .sl _ _ _) rfl rfl) (Keeps.cons (by exact Eq.trans (b := .raw _) rfl rfl) (Keeps.cons (by exact Eq.trans (b := .raw _) rfl rfl) (Keeps.cons (by exact Eq.trans (b := .raw _) rfl rfl) (Keeps.cons (by exact Eq.trans (b := .raw _) rfl rfl) (Keeps.cons (by exact Eq.trans (b := .raw _) rfl rfl) (Keeps.nil))))))))) (by repeat (first | exact HSub.refl _ | refine HSub.pick 1 rfl ?_ | refine HSub.drop ?_)) ?_ ?_
                  · exact ⟨by omega, by rw [take_snoc hw, List.filter_append, ← hNr, List.filter_cons, if_neg (by simpa using h19)]; simp, own2⟩
                  · (simp; omega)
              · have hil : i = R2.length := by have := of_decide_eq_false h17; omega
                rw [hil, List.take_length] at hNr
                have hNea : ∀ v, Nea (Ee r) (Ss r) out v ↔ v ∈ Nr2 := fun v => by
                  unfold Nea
                  rw [hNr, List.mem_filter, decide_eq_true_eq, hRdy, hxn]
                refine LW.exit (exit_code (exit_rnd (exit_blk (after_code ?_))))
                refine X.meetK (α := Vx) (fun v => []) [0, 2, 3, 4, 5, 6, 9] (fun v => ownA Ar2 ter2 xsr2 ++ (gW b15 W2 :: .cells b9 35 (vxL v) :: .tail b o e :: gC g ma mb n :: gA ma m :: kb :: (ownA An2 ten2 xsn2 ++ Rf))) (fun v => Pick (Ee r) (Ss r) out v ∧ 0 < nr2) ?_ ?_
                · refine LW.block ?_
                  refine LW.seq ?_
                  refine LW.region ?_
                  refine X.u (LU.moveR Is.rfl') rfl ?_
                  refine X.u (LU.lenO Tryd.underlying26 Is.rfl') rfl ?_
                  refine X.u (LU.eql Is.rfl' Is.rfl') rfl ?_
                  refine X.u (LU.assignR Is.rfl') rfl ?_
                  refine LL.nil (after_code ?_)
                  refine X.cond rfl (fun h23 => ?_) (fun h23 => ?_)
                  · have h23 : nr2 = 0 := by simp at h23; omega
                    have hR0 : R2 = [] := List.eq_nil_of_length_eq_zero (by omega)
                    have hord : OrdR r out := ⟨hrun, fun v hv => by have := (hRdy v).2 hv; rw [hR0] at this; cases this⟩
                    refine LW.exit (exit_blk' rfl (exit_rnd (exit_blk' rfl (exit_rnd (exit_blk (after_code ?_))))))
                    refine LW.seq ?_
                    refine LW.region ?_
                    refine X.u (LU.moveS Is.rfl') rfl ?_
                    refine X.u (LU.assignS Is.rfl') rfl ?_
                    refine LL.nil (after_code ?_)
                    refine LW.ret (after_end ?_)
                    refine X.ret (H' := [gC g ma mb n, gA ma m, kb]) (Res.one (by exact IsS rfl)) (HSub.trans (ownA_drop Ar2 ter2 xsr2 _) (HSub.drop (HSub.drop (HSub.drop (HSub.cons (HSub.cons (HSub.cons (ownA_drop An2 ten2 xsn2 Rf)))))))) ?_
                    exact ⟨out, rfl, rfl, hord⟩
                  · have h23 : 0 < nr2 := by simp at h23; omega
                    obtain ⟨bA, rfl⟩ := own_some owr2 h23
                    have howl := owr2.len
                    have howle := owr2.le
                    have hlr : ∃ a l, R2 = a :: l := by
                      cases hq : R2 with
                      | nil => rw [hq] at hnR2; simp at hnR2; omega
                      | cons a l => exact ⟨a, l, rfl⟩
                    obtain ⟨ra, rl, hRa⟩ := hlr
                    have hrll : rl.length < 1000000 := by rw [hRa] at hRl2; simp at hRl2; omega
                    refine LW.seq ?_
                    refine LW.region ?_
                    refine X.u (LU.moveR Is.rfl') rfl ?_
                    refine X.u (LU.lenO Tryd.underlying26 Is.rfl') rfl ?_
                    refine X.u (LU.eql Is.rfl' Is.rfl') rfl ?_
                    refine X.u (LU.assignR Is.rfl') rfl ?_
                    refine LL.nil (after_code ?_)
                    refine X.cond rfl (fun h24 => ?_) (fun h24 => ?_)
                    · have h24 : nn2 = 0 := by simp at h24; omega
                      have hN0 : Nr2 = [] := List.eq_nil_of_length_eq_zero (by omega)
                      have hno : ¬ ∃ w, Nea (Ee r) (Ss r) out w := by
                        rintro ⟨w, hw⟩
                        have := (hNea w).1 hw
                        rw [hN0] at this; cases this
                      have hml := vxL_len (minV ra rl)
                      have hm32 : (minV ra rl).p.1.length = 32 := (minV ra rl).p.2
                      have hp1 : Pick (Ee r) (Ss r) out (minV ra rl) := ⟨fun c => absurd c hno, fun _ => minV_least fun v => by rw [← hRdy, hRa]⟩
                      refine LW.region ?_
                      refine X.u (LU.moveR Is.rfl') rfl ?_
                      refine X.u (LU.weak (LU.lend ((least_calls ra rl .unk hrll).isR (Is.vx _)) Tryd.func55 rfl rfl (OpdsL.cons (by exact IsL.cells (es := vxs (ra :: rl)) (size := 33) (b := bA) (off := offr2) (n := nr2) (c := cr2) 0 rfl Is.rfl' (vxs_size _) (by rw [← hRa]; exact owr2.cnt) (by omega) (by rw [← hRa]; exact owr2.cells.symm) owr2.le) OpdsL.nil)) (Is.rawvx (minV ra rl))) rfl ?_
                      refine X.act (X.store 2 rfl Tryd.sizeOf35 Is.rfl' Is.rfl' (by exact Cells.agg) (by assumption) (by (simp; omega)) ?_)
                      refine LL.nil (after_blk (after_rnd ?_))
                      refine X.meets (minV ra rl) rfl (EnvLe.nil) (Keeps.cons (by exact Eq.trans (b := .raw _) rfl rfl) (Keeps.cons (by exact Eq.trans (b := .sl _ _ _) rfl rfl) (Keeps.cons (by exact Eq.trans (b := .sl _ _ _) rfl rfl) (Keeps.cons (by exact Eq.trans (b := .raw _) rfl rfl) (Keeps.cons (by exact Eq.trans (b := .raw _) rfl rfl) (Keeps.cons (by exact Eq.trans (b := .raw _) rfl rfl) (Keeps.cons (by exact Eq.trans (b := .raw _) rfl rfl) (Keeps.nil)))))))) (by show L.HSub (.cells b9 _ (putAt (vxL (lastO out)) 0 (vxL _)) :: _) (.cells bA ter2 xsr2 :: gW b15 W2 :: .cells b9 _ _ :: _); rw [putAt_all (by rw [hll, vxL_len])]; exact (by repeat (first | exact HSub.refl _ | refine HSub.pick 1 rfl ?_))) ?_
                      exact ⟨hp1, h23⟩
                    · have h24 : 0 < nn2 := by simp at h24; omega
                      obtain ⟨bN, rfl⟩ := own_some own2 h24
                      have hownl := own2.len
                      have hownle := own2.le
                      have hln : ∃ a l, Nr2 = a :: l := by
                        cases hq : Nr2 with
                        | nil => rw [hq] at hnN2; simp at hnN2; omega
                        | cons a l => exact ⟨a, l, rfl⟩
                      obtain ⟨na, nl, hNa⟩ := hln
                      have hnll : nl.length < 1000000 := by rw [hNa] at hNl2; simp at hNl2; omega
                      have hml := vxL_len (minV na nl)
                      have hm32 : (minV na nl).p.1.length = 32 := (minV na nl).p.2
                      have hp1 : Pick (Ee r) (Ss r) out (minV na nl) := ⟨fun _ => minV_least fun v => by rw [hNea, hNa], fun c => absurd ⟨na, (hNea na).2 (by rw [hNa]; simp)⟩ c⟩
                      refine LW.region ?_
                      refine X.u (LU.moveR Is.rfl') rfl ?_
                      refine X.u (LU.weak (LU.lend ((least_calls na nl .unk hnll).isR (Is.vx _)) Tryd.func55 rfl rfl (OpdsL.cons (by exact IsL.cells (es := vxs (na :: nl)) (size := 33) (b := bN) (off := offn2) (n := nn2) (c := cn2) 7 rfl Is.rfl' (vxs_size _) (by rw [← hNa]; exact own2.cnt) (by omega) (by rw [← hNa]; exact own2.cells.symm) own2.le) OpdsL.nil)) (Is.rawvx (minV na nl))) rfl ?_
                      refine X.act (X.store 2 rfl Tryd.sizeOf35 Is.rfl' Is.rfl' (by exact Cells.agg) (by assumption) (by (simp; omega)) ?_)
                      refine LL.nil (after_blk (after_rnd ?_))
                      refine X.meets (minV na nl) rfl (EnvLe.nil) (Keeps.cons (by exact Eq.trans (b := .raw _) rfl rfl) (Keeps.cons (by exact Eq.trans (b := .sl _ _ _) rfl rfl) (Keeps.cons (by exact Eq.trans (b := .sl _ _ _) rfl rfl) (Keeps.cons (by exact Eq.trans (b := .raw _) rfl rfl) (Keeps.cons (by exact Eq.trans (b := .raw _) rfl rfl) (Keeps.cons (by exact Eq.trans (b := .raw _) rfl rfl) (Keeps.cons (by exact Eq.trans (b := .raw _) rfl rfl) (Keeps.nil)))))))) (by show L.HSub (.cells b9 _ (putAt (vxL (lastO out)) 0 (vxL _)) :: _) (.cells bA ter2 xsr2 :: gW b15 W2 :: .cells b9 _ _ :: _); rw [putAt_all (by rw [hll, vxL_len])]; exact (by repeat (first | exact HSub.refl _ | refine HSub.pick 1 rfl ?_))) ?_
                      exact ⟨hp1, h23⟩
                · rintro v hI
                  refine LW.seq ?_
                  obtain ⟨hpick, h23⟩ := hI
                  obtain ⟨bA, rfl⟩ := own_some owr2 h23
                  have howl := owr2.len
                  have howle := owr2.le
                  have hvl := vxL_len v
                  have hv32 : v.p.1.length = 32 := v.p.2
                  have hvR : v ∈ R2 := (hRdy v).2 hpick.rdy
                  have hp0 := placeG_nn hvR
                  have hpr := placeG_range R2 v
                  obtain ⟨ix, hix⟩ : ∃ ix : Nat, placeG R2 v = ix := ⟨(placeG R2 v).toNat, by omega⟩
                  have herase : R2.eraseIdx ix = R2.filter fun y => decide (y ≠ v) := by rw [← place_erase hKI.nd hp0, hix, Int.toNat_natCast]
                  have hov : out.length < (idsG r.L).length := by
                    have := run_len ho (hrun.snoc hpick)
                    rw [List.length_append, List.length_singleton] at this; omega
                  refine LW.region ?_
                  refine X.u (LU.moveR Is.rfl') rfl ?_
                  refine X.u (LU.loadO 2 rfl ⟨Tryd.sizeOf35, Tryd.isAgg35⟩ Is.rfl' (Part.whole (by assumption))) rfl ?_
                  refine X.u (LU.lend (index_calls R2 .unk v (by omega)) Tryd.func56 rfl rfl (OpdsL.cons (by exact IsL.cells (es := vxs R2) (size := 33) (b := bA) (off := offr2) (n := nr2) (c := cr2) 0 rfl Is.rfl' (vxs_size _) owr2.cnt (by omega) owr2.cells.symm owr2.le) (OpdsL.cons (by exact IsL.rfl') OpdsL.nil))) rfl ?_
                  refine X.u (LU.assignR Is.rfl') rfl ?_
                  refine LL.nil (after_code ?_)
                  refine LW.seq ?_
                  refine LW.region ?_
                  refine X.u (LU.moveR Is.rfl') rfl ?_
                  refine X.u (LU.weak (LU.moveR Is.rfl') (Is.of (y := i64 (ix : Nat)) (congrArg i64 hix))) rfl ?_
                  refine X.u (LU.moveR Is.rfl') rfl ?_
                  refine X.u (LU.weak (LU.addN Is.rfl' Is.rfl' (wrap_i64 (by omega) (by omega))) (Is.of (y := i64 ((ix + 1 : Nat) : Int)) (congrArg i64 (by rw [hix]; rfl)))) rfl ?_
                  refine X.act (X.call (delete_calls R2 bA offr2 nr2 cr2 ix ter2 xsr2 owr2 (by omega) (by omega)) Tryd.func57 rfl rfl rfl (by (refine HSub.pick 0 rfl ?_); exact HSub.refl _) (Opds.cons Is.rfl' (Opds.cons Is.rfl' (Opds.cons Is.rfl' Opds.nil))) ?_)
                  rintro r H' ⟨rfl, xsD, rfl, owD⟩
                  refine X.u (LU.assignR Is.rfl') rfl ?_
                  refine LL.nil (after_code ?_)
                  refine X.wghost (H' := .tail b o e :: gW b15 W2 :: .cells b9 35 (vxL v) :: gC g ma mb n :: gA ma m :: kb :: (ownA An2 ten2 xsn2 ++ (ownA (some bA) ter2 xsD ++ Rf))) (HSub.trans (B := [gW b15 W2, .cells b9 35 (vxL v), .tail b o e, gC g ma mb n, gA ma m, kb] ++ ownA An2 ten2 xsn2 ++ (.cells bA ter2 xsD :: Rf)) (hpush _ Rf ([gW b15 W2, .cells b9 35 (vxL v), .tail b o e, gC g ma mb n, gA ma m, kb] ++ ownA An2 ten2 xsn2)) (by repeat (first | exact HSub.refl _ | refine HSub.pick 2 rfl ?_))) ?_
                  refine LW.region ?_
                  refine X.u (LU.moveS Is.rfl') rfl ?_
                  refine X.u (LU.loadO 2 rfl ⟨Tryd.sizeOf35, Tryd.isAgg35⟩ Is.rfl' (Part.whole (by assumption))) rfl ?_
                  refine X.u (LU.lits Tryd.underlying26 Tryd.sizeOf35 Tryd.zeroValue35 (ones rfl) rfl (by decide) (by decide) (Elems.cons Is.rfl' (by exact Cells.agg) Elems.nil) (by (simp; assumption)) rfl) rfl ?_
                  refine X.act (X.append 0 rfl rfl Tryd.underlying26 (El.of (P := Tryd.prog) (z := (.agg #[(.int .u8 0), (.int .u8 0), (.int .u8 0), (.int .u8 0), (.int .u8 0), (.int .u8 0), (.int .u8 0), (.int .u8 0), (.int .u8 0), (.int .u8 0), (.int .u8 0), (.int .u8 0), (.int .u8 0), (.int .u8 0), (.int .u8 0), (.int .u8 0), (.int .u8 0), (.int .u8 0), (.int .u8 0), (.int .u8 0), (.int .u8 0), (.int .u8 0), (.int .u8 0), (.int .u8 0), (.int .u8 0), (.int .u8 0), (.int .u8 0), (.int .u8 0), (.int .u8 0), (.int .u8 0), (.int .u8 0), (.int .u8 0), (.int .i64 0)])) (size := 33) (bytes := 40) rfl rfl rfl) Is.rfl' Is.rfl' (SrcL.slice Tryd.underlying26 (by decide) (by intro e he; rw [List.mem_singleton.1 he]; exact hvl)) (by simp only [Option.getD_some, Option.getD_none, byteEls_length, intEls_length, List.length_append, List.length_cons, List.length_nil, List.length_map, List.length_drop, List.length_take, Int.toNat_natCast]; omega) (by simp only [Option.getD_some, Option.getD_none, byteEls_length, intEls_length, List.length_append, List.length_cons, List.length_nil, List.length_map, List.length_drop, List.length_take, Int.toNat_natCast]; omega) (fun b109 o109 c109 => X.weak (t := 109) (Is.of (y := Vxs (out ++ [v]) (.tok b109 o109 c109)) (congrArg (fun z => LV.sl 33 z (.tok b109 o109 c109)) (vxs_app out [v]))) ?_))
                  refine X.u (LU.assignS Is.rfl') rfl ?_
                  refine LL.nil (after_blk (after_rnd ?_))
                  refine X.next ((out ++ [v], W2, R2.eraseIdx ix, Nr2, An2, ten2, offn2, nn2, cn2, xsn2, some bA, ter2, offr2, nr2 - 1, cr2, xsD, b109, o109, c109)) rfl (EnvLe.cons (by rfl) (EnvLe.cons (by rfl) (EnvLe.cons (by rfl) (EnvLe.nil)))) (Keeps.cons (by exact Eq.trans (b := .raw _) rfl rfl) (Keeps.cons (by exact Eq.trans (b := .sl _ _ _) rfl rfl) (Keeps.cons (by exact Eq.trans (b := .raw _) rfl rfl) (Keeps.cons (by exact Eq.trans (b := .raw _) rfl rfl) (Keeps.nil))))) (by show L.HSub _ (.tail b109 o109 c109 :: gW b15 W2 :: .cells b9 35 (vxL (lastO (out ++ [v]))) :: gC g ma mb n :: gA ma m :: kb :: (ownA An2 ten2 xsn2 ++ (ownA (some bA) ter2 xsD ++ Rf))); rw [last_snoc]; exact (by repeat (exact HSub.refl _))) ?_ ?_
                  · refine ⟨hrun.snoc hpick, hKI.next hvR (by rw [herase]; exact List.filter_sublist.nodup hKI.nd) (fun y => by rw [herase, List.mem_filter, decide_eq_true_eq]), owD, own2⟩
                  · (simp; omega)
end Go.Proofs.YtolpkeajokjbjaaDoor
