/- What LinesUndo needs, part 3. -/
import Derived.Below
import Derived.WalkKit
import Derived.OwnWalk
import Derived.Deep.LoopGhost
import Derived.RangeFuncIn
import Derived.RangeFuncLeaves
import Derived.TacticsIn
import Derived.OrdersIn
import Derived.LoopIn
import Derived.LoopNIn
import Derived.Laws.Entries
import Derived.Laws.Slices
import Derived.Laws.Cells
import Derived.Deep.AppendSrc
import Derived.Deep.MidRow
import Derived.Laws.AppendOwn
import Derived.Laws.MakeOwn
import Derived.Laws.IdiomCopy
import Derived.Lib.ConvBytes
import Derived.Lib.SlBytesConst
import Derived.Laws.BytesArg
import Derived.Deep.Upon
import Derived.Laws.StructEq
import Derived.Laws.Small
import Derived.SizedLaws
import Derived.ChangeSlices
import Derived.Lib.SmallJoins
import Derived.MakeChecks
import Derived.ChangeBears2
import Derived.Laws.CopyRow
import Derived.RangeFuncRecord
import Derived.Laws.Externs
import Derived.Lib.Bytealg
import Derived.Lib.IndexLaws
import Derived.DefersIn
import Derived.Lib.SliceRun
import Derived.OpenShut
import Derived.WideShapes
import Derived.Maps.RangeRun
import Derived.Sort.Row
import Derived.Lib.BytesEntry
import Derived.Lib.SlFresh
import Derived.Test.YtolpkeajokjbjaaDoorProg
import Derived.Test.YtolpkeajokjbjaaDoorRows
import Derived.LaidMore
import Derived.LaidHandle
import Derived.ChangeSame
import Derived.Test.YtolpkeajokjbjaaDoorBLinesUndo2
set_option linter.unusedVariables false
set_option linter.unusedSimpArgs false
namespace Go.L
open Go.RowKit
section
variable {κ : Type} [DecidableEq κ]
def entI (l : List (κ × LV)) (a : κ) : Nat := (idxM l a).getD l.length
def entM (l : List (κ × LV)) (a : κ) (z : LV) : List (κ × LV) := match idxM l a with
  | some _ => l
  | none => l ++ [(a, z)]
theorem ent_set (l : List (κ × LV)) (a : κ) (z v : LV) : (entM l a z).set (entI l a) (a, v) = setM l a v := by
  unfold entM entI setM
  cases h : idxM l a with
  | some i => rfl
  | none => simp
theorem ent_at (l : List (κ × LV)) (a : κ) (z : LV) : (entM l a z)[entI l a]? = some (a, (lookM l a).getD z) := by
  unfold entM entI lookM
  cases h : idxM l a with
  | some i => obtain ⟨v, hv⟩ := idxM_some h; simp [hv]
  | none => simp
end
section
variable {P : Program} {env : List (Nat × LV)} {H : List Atom} {d : Option Tmp} {ty : TypeId} {pos : String} {af : Array Edge} {g : Option (Nat × Bool)} {st : LS} {K : LS → Prop}
theorem LO.mapEntry {x y : Operand} {t kt et : TypeId} {m : Nat} {κ : Type} [DecidableEq κ] {key : κ → Value} {l : List (κ × LV)} {a : κ} {z : Value} {d : Tmp} (k : Nat) (hd : Nat.blt d st.n.k = true) (Ko : KeyOk P kt key) (hk : st.heap[k]? = some (.map m (mp key l))) (ht : P.underlying t = some (.map kt et)) (hz : ∀ w, (zeroValue et).run P w = .ok z w) (hx : Is (ev st.env x) (.raw (.map (some m)))) (hy : Is (ev st.env y) (.raw (key a)))
    (h : ∀ s, K ⟨st.n, (d, .tup [(lookM l a).getD (.raw z), .raw (.int .i64 (s : Nat))]) :: st.env, .mape m (mp key (entM l a (.raw z))) (entI l a) s :: st.heap.eraseIdx k⟩) : LO P ⟨some d, .mapEntry t x y, ty, pos, af, g⟩ st K := .of_run hd fun w0 ph ac w r => by
  have h1 := (hx _ _ (r.tmps.eval x)).rawE
  have h2 := (hy _ _ (r.tmps.eval y)).rawE
  have hinv := r.inv.front k
  unfold L.front at hinv
  rw [hk] at hinv
  obtain ⟨F, hF, ents, clock, hh, hsz, hreps, hpw⟩ := hinv.atom
  have hkeys := map_keys hsz hreps
  have hf := Ko.find a ents.toList l w hkeys
  have hlen : ents.size = l.length := by rw [hsz, List.length_map]
  have hlt := lt_of_some hh
  cases hi : idxM l a with
  | none =>
    rw [hi] at hf
    simp only [Option.bind_none] at hf
    have hM : entM l a (.raw z) = l ++ [(a, .raw z)] := by unfold entM; rw [hi]
    have hI : entI l a = l.length := by unfold entI; rw [hi]; rfl
    have hL : (lookM l a).getD (.raw z) = .raw z := by unfold lookM; rw [hi]; rfl
    refine ⟨_, .tuple #[z, .int .i64 (clock : Nat)], w.putObj m (.map (ents.push { key := key a, val := z, born := clock }) (clock + 1)), ph, _, ?_, PH.le.refl _, hinv.turn (a' := .mape m (mp key (entM l a (.raw z))) (entI l a) clock) (PH.le.refl _) (fun G hG hn => ⟨Chg.put _ (fun o => (hG.1 m o).2 rfl), G, ⟨hG.1, _, _, World.putObj_heap_same hlt, ?_, fun i e kv he hkv => ?_, ?_, ?_⟩, fun b o hb => .inl hb, fun p u hp => .inl hp⟩), ?_, h clock⟩
    · simp [execOp, h1, h2, Instr.mapEntry, run_underlying ht, MapKept.run_getObj_map hh, Ko.check, hf, hz, goInt, MapKept.run_setObj_map _ hh, World.putObj]
    · rw [hM]; simp [hlen]
    · rw [hM] at hkv
      simp only [mp, List.map_append, List.map_cons, List.map_nil] at hkv
      rw [Array.getElem?_push] at he
      by_cases c : i = ents.size
      · rw [if_pos c] at he
        obtain rfl := Option.some.inj he
        rw [List.getElem?_append_right (by rw [List.length_map]; omega), List.length_map, show i - l.length = 0 by omega] at hkv
        obtain rfl := Option.some.inj hkv
        exact ⟨.raw _, .raw _, by show clock < clock + 1; omega⟩
      · rw [if_neg c] at he
        have hil := (Array.getElem?_eq_some_iff.1 he).1
        rw [List.getElem?_append_left (by rw [List.length_map]; omega)] at hkv
        have := hreps i e kv he hkv
        exact ⟨this.1, this.2.1, by omega⟩
    · rw [Array.toList_push, List.map_append, List.pairwise_append]
      refine ⟨hpw, by simp, fun x hx y hy => ?_⟩
      simp only [List.map_cons, List.map_nil, List.mem_singleton] at hy
      subst hy
      obtain ⟨e, he, rfl⟩ := List.mem_map.1 hx
      obtain ⟨i, hi2, rfl⟩ := List.getElem_of_mem he
      have hi3 : i < ents.size := by simpa using hi2
      exact (hreps i ents[i] ((mp key l)[i]'(by omega)) (Array.getElem?_eq_getElem hi3) (List.getElem?_eq_getElem _)).2.2
    · rw [hI, ← hlen]; simp
    · refine .tup _ _ rfl fun i c x h1 h2 => ?_
      match i with
      | 0 => simp [hL] at h1 h2; subst h1; subst h2; exact .raw _
      | 1 => simp at h1 h2; subst h1; subst h2; exact .raw _
      | k + 2 => simp at h1
  | some i =>
    rw [hi] at hf
    obtain ⟨u, hu⟩ := idxM_some hi
    have hil := (List.getElem?_eq_some_iff.1 hu).1
    have hie : i < ents.size := by omega
    simp only [Option.bind_some, Array.getElem?_toList, Array.getElem?_eq_getElem hie, Option.map_some] at hf
    have hM : entM l a (.raw z) = l := by unfold entM; rw [hi]
    have hI : entI l a = i := by unfold entI; rw [hi]; rfl
    have hL : (lookM l a).getD (.raw z) = u := by unfold lookM; rw [hi]; simp [hu]
    have hri := hreps i ents[i] (.raw (key a), u) (Array.getElem?_eq_getElem hie) (by rw [List.getElem?_map, hu]; rfl)
    have hki : ents[i].key = key a := hri.1.rawE
    have hsame : (ents.modify i fun e => { e with key := key a }) = ents := by
      apply Array.ext_getElem?
      intro j
      rw [Array.getElem?_modify]
      by_cases c : i = j
      · subst c; rw [if_pos rfl, Array.getElem?_eq_getElem hie, ← hki]; rfl
      · rw [if_neg c]
    refine ⟨_, .tuple #[ents[i].val, .int .i64 (ents[i].born : Nat)], w.putObj m (.map (ents.modify i fun e => { e with key := key a }) clock), ph, _, ?_, PH.le.refl _, hinv.turn (a' := .mape m (mp key (entM l a (.raw z))) (entI l a) ents[i].born) (PH.le.refl _) (fun G hG hn => ⟨Chg.put _ (fun o => (hG.1 m o).2 rfl), G, ⟨hG.1, _, _, World.putObj_heap_same hlt, ?_, ?_, ?_, ?_⟩, fun b o hb => .inl hb, fun p u hp => .inl hp⟩), ?_, h ents[i].born⟩
    · simp [execOp, h1, h2, Instr.mapEntry, run_underlying ht, MapKept.run_getObj_map hh, Ko.check, hf, Instr.keyThatStays, hie, hki, Ko.stays, goInt, MapKept.run_setObj_map _ hh, World.putObj]
    · rw [hM]; simp [hlen]
    · rw [hM, hsame]; exact hreps
    · rw [hsame]; exact hpw
    · rw [hI, hsame, Array.getElem?_eq_getElem hie]; rfl
    · refine .tup _ _ rfl fun j c x h1 h2 => ?_
      match j with
      | 0 => simp [hL] at h1 h2; subst h1; subst h2; exact hri.2.1
      | 1 => simp at h1 h2; subst h1; subst h2; exact .raw _
      | k + 2 => simp at h1
theorem ent_look {κ : Type} [DecidableEq κ] (l : List (κ × LV)) (a : κ) (z : LV) : (lookM (entM l a z) a).getD z = (lookM l a).getD z := by
  unfold entM
  cases h : idxM l a with
  | some i => rfl
  | none =>
    have h1 : lookM l a = none := by unfold lookM; rw [h]; rfl
    have key : ∀ l : List (κ × LV), idxM l a = none → lookM (l ++ [(a, z)]) a = some z := by
      intro l
      induction l with
      | nil => intro _; simp [lookM, idxM]
      | cons p r ih =>
        intro hp
        rw [idxM] at hp
        by_cases c : p.1 = a
        · simp [c] at hp
        · simp only [c, if_false, Option.map_eq_none_iff] at hp
          have := ih hp
          unfold lookM at this ⊢
          rw [List.cons_append, idxM, if_neg c]
          cases hx : idxM (r ++ [(a, z)]) a with
          | none => rw [hx] at this; cases this
          | some i => rw [hx] at this; simpa using this
    show (lookM (l ++ [(a, z)]) a).getD z = _
    rw [key l h, h1]; rfl
/-- A read of a map of which the entry may be taken already, or not yet. -/
theorem LU.lookupC {x y : Operand} {t kt et : TypeId} {m s : Nat} {β : Bool} {κ : Type} [DecidableEq κ] {key : κ → Value} {l : List (κ × LV)} {z : Value} {a : κ} (k : Nat) (Ko : KeyOk P kt key) (hk : H[k]? = some (cond β (.mape m (mp key (entM l a (.raw z))) (entI l a) s) (.map m (mp key l)))) (ht : P.underlying t = some (.map kt et)) (hz : ∀ w, (zeroValue et).run P w = .ok z w) (hx : Is (ev env x) (.raw (.map (some m)))) (hy : Is (ev env y) (.raw (key a))) :
    LU P env H ⟨d, .lookup t x y false, ty, pos, af, g⟩ ((lookM l a).getD (.raw z)) := by
  cases β with
  | false => exact LU.lookup k Ko hk ht hz hx hy
  | true =>
    exact .of_run fun ph ac hl w0 w hinv => by
      have h1 := (hx _ _ (hl x (by simp [Op.operands]))).rawE
      have h2 := (hy _ _ (hl y (by simp [Op.operands]))).rawE
      obtain ⟨F, hF1, ents, clock, hF2, hF3, hF4, hF5, _⟩ := hinv.atom_at hk
      have hF : Atom.at ph w (.map m (mp key (entM l a (.raw z)))) F := ⟨hF1, ents, clock, hF2, hF3, hF4, hF5⟩
      obtain ⟨u, hu, hr⟩ := look_run Ko hF ht (hz w) a false
      rw [ent_look] at hr
      exact ⟨u, by simp [execOp, h1, h2, hu], hr⟩
theorem LO.entryStore {x y z : Operand} {t : TypeId} {m s i : Nat} {κ : Type} {key : κ → Value} {l : List (κ × LV)} {a : κ} {u v : LV} (k : Nat) (hk : st.heap[k]? = some (.mape m (mp key l) i s)) (ha : l[i]? = some (a, u)) (hx : Is (ev st.env x) (.raw (.map (some m)))) (hy : Is (ev st.env y) (.raw (.int .i64 (s : Nat)))) (hz : Is (ev st.env z) v)
    (h : K ⟨st.n, st.env, .map m (mp key (l.set i (a, v))) :: st.heap.eraseIdx k⟩) : LO P ⟨none, .entryStore t x y z, ty, pos, af, g⟩ st K := .of_skip fun w0 ph ac w r => by
  have h1 := (hx _ _ (r.tmps.eval x)).rawE
  have h2 := (hy _ _ (r.tmps.eval y)).rawE
  have h3 := hz _ _ (r.tmps.eval z)
  have hinv := r.inv.front k
  unfold L.front at hinv
  rw [hk] at hinv
  obtain ⟨F, hF, ents, clock, hh, hsz, hreps, hpw, hs⟩ := hinv.atom
  have hlen : ents.size = l.length := by rw [hsz, List.length_map]
  have hlt := lt_of_some hh
  have hil := (List.getElem?_eq_some_iff.1 ha).1
  have hie : i < ents.size := by omega
  rw [Array.getElem?_eq_getElem hie] at hs
  have hs : ents[i].born = s := Option.some.inj hs
  have hri := hreps i ents[i] (.raw (key a), u) (Array.getElem?_eq_getElem hie) (by rw [List.getElem?_map, ha]; rfl)
  have hfind : ents.findIdx? (fun e => (e.born : Int) == (s : Int)) = some i := by
    rw [Array.findIdx?_eq_some_iff_getElem]
    refine ⟨hie, by rw [hs]; simp, fun j hj => ?_⟩
    have hp := List.pairwise_iff_getElem.1 hpw j i (by simp; omega) (by simp; omega) hj
    simp at hp
    rw [hs] at hp
    simp
    omega
  refine ⟨w.putObj m (.map (ents.modify i fun e => { e with val := ac.eval z }) clock), ph, _, ?_, PH.le.refl _, hinv.turn (a' := .map m (mp key (l.set i (a, v)))) (PH.le.refl _) (fun G hG hn => ⟨Chg.put _ (fun o => (hG.1 m o).2 rfl), G, ⟨hG.1, _, _, World.putObj_heap_same hlt, ?_, fun j e kv he hkv => ?_, ?_⟩, fun b o hb => .inl hb, fun p u hp => .inl hp⟩), h⟩
  · simp [execOp, h1, h2, Instr.entryStore, MapKept.run_getObj_map hh, asInt, asIntOf, hfind, MapKept.run_setObj_map _ hh, World.putObj]
  · simp [hlen]
  · rw [Array.getElem?_modify] at he
    simp only [mp, List.map_set] at hkv
    by_cases c : i = j
    · subst c
      rw [if_pos rfl, Array.getElem?_eq_getElem hie] at he
      obtain rfl := Option.some.inj he
      rw [List.getElem?_set_self (by rw [List.length_map]; exact hil)] at hkv
      obtain rfl := Option.some.inj hkv
      exact ⟨hri.1, h3, hri.2.2⟩
    · rw [if_neg c] at he
      rw [List.getElem?_set_ne c] at hkv
      exact hreps j e kv he hkv
  · have : (ents.modify i fun e => { e with val := ac.eval z }).toList.map (·.born) = ents.toList.map (·.born) := by
      apply List.ext_getElem?
      intro j
      simp only [List.getElem?_map, Array.getElem?_toList, Array.getElem?_modify]
      by_cases c : i = j
      · subst c; simp [hie]
      · simp [c]
    rw [this]; exact hpw
end
section
variable {P : Program} {n : NN} {env : List (Nat × LV)} {H : List Atom} {K : LS → Prop} {ty : TypeId} {pos : String} {af : Array Edge} {g : Option (Nat × Bool)}
/-- The store to the entry that was taken: the map with the new value. -/
theorem X.entryStore {x y z : Operand} {t : TypeId} {m s : Nat} {κ : Type} [DecidableEq κ] {key : κ → Value} {l : List (κ × LV)} {a : κ} {z0 v : LV} (k : Nat) (hk : H[k]? = some (.mape m (mp key (entM l a z0)) (entI l a) s)) (hx : Is (ev env x) (.raw (.map (some m)))) (hy : Is (ev env y) (.raw (.int .i64 (s : Nat)))) (hz : Is (ev env z) v)
    (h : K ⟨n, env, .map m (mp key (setM l a v)) :: H.eraseIdx k⟩) : LO P ⟨none, .entryStore t x y z, ty, pos, af, g⟩ ⟨n, env, H⟩ K := LO.entryStore (st := ⟨n, env, H⟩) k hk (ent_at l a z0) hx hy hz (by rw [ent_set]; exact h)
end
end Go.L
namespace Go.L
open Go.RowKit
section
variable {P : Program} {st : LS} {env : List (Nat × LV)} {H : List Atom} {K : LS → Prop} {ty : TypeId} {pos : String} {af : Array Edge} {g : Option (Nat × Bool)}
end
section
variable {P : Program} {n : NN} {env : List (Nat × LV)} {H : List Atom} {K : LS → Prop} {ty : TypeId} {pos : String} {af : Array Edge} {g : Option (Nat × Bool)}
end
end Go.L
namespace Go.L
open Go.RowKit
abbrev Hs := {l : List UInt8 // l.length = 32}
abbrev hsV (l : List UInt8) : Value := .agg (l.map fun b => Value.int .u8 b.toNat).toArray
abbrev hsKey (a : Hs) : Value := hsV a.1
abbrev hsL (a : Hs) : List LV := a.1.map fun b => LV.raw (.int .u8 b.toNat)
theorem hs_nat (l : List UInt8) : (l.map fun b => Value.int .u8 b.toNat) = (l.map UInt8.toNat).map fun (m : Nat) => Value.int .u8 (m : Int) := by rw [List.map_map]; rfl
theorem toNat_inj {a b : List UInt8} : a.map UInt8.toNat = b.map UInt8.toNat ↔ a = b := List.map_inj_right fun x y h => UInt8.toNat_inj.1 h
section
variable {P : Program} {kt e : TypeId}
theorem eq_hs (ht : P.underlying kt = some (.array 32 e)) (he : P.underlying e = some (.int .u8)) (hsz : ∀ w, (sizeOf e).run P w = .ok 1 w) (a b : Hs) (w : World) : (Op.equal kt (hsKey a) (hsKey b)).run P w = .ok (decide (b = a)) w := by
  have h := EqR.arr ht he hsz (k := .u8) (a.1.map UInt8.toNat) (b.1.map UInt8.toNat) (by rw [List.length_map]; exact a.2) (by rw [List.length_map]; exact b.2) 9998 w
  rw [← hs_nat, ← hs_nat] at h
  have hd : decide (a.1.map UInt8.toNat = b.1.map UInt8.toNat) = decide (b = a) := by
    rw [Bool.eq_iff_iff]
    simp only [decide_eq_true_eq, toNat_inj]
    exact ⟨fun h => Subtype.ext h.symm, fun h => by rw [h]⟩
  rw [hd] at h
  exact h
theorem asking_ok (ht : P.underlying kt = some (.array 32 e)) (he : P.underlying e = some (.int .u8)) (hsz : ∀ w, (sizeOf e).run P w = .ok 1 w) (a : Hs) (w : World) : ∀ (es : List MapEntry) (l : List (Hs × LV)) (n : Nat), es.map (·.key) = l.map (fun p => hsKey p.1) → (Instr.findAsking kt (hsKey a) es n).run P w = .ok ((idxM l a).bind fun i => (es[i]?).map fun x => (n + i, x.val)) w
  | [], [], n, _ => by simp [Instr.findAsking, idxM]
  | [], p :: l, n, h => by simp at h
  | x :: es, [], n, h => by simp at h
  | x :: es, p :: l, n, h => by
    simp only [List.map_cons, List.cons.injEq] at h
    rw [Instr.findAsking]
    simp only [Sem.run_bind, h.1, eq_hs ht he hsz a p.1 w, Result.andThen_ok]
    by_cases c : p.1 = a
    · simp [idxM, c]
    · have ih := asking_ok ht he hsz a w es l (n + 1) h.2
      simp only [c, decide_false, Bool.false_eq_true, if_false, idxM]
      rw [ih]
      cases idxM l a with
      | none => rfl
      | some i => simp only [Option.bind_some, Option.map_some, List.getElem?_cons_succ]; rw [show n + 1 + i = n + (i + 1) by omega]
theorem KeyOk.hs (ht : P.underlying kt = some (.array 32 e)) (he : P.underlying e = some (.int .u8)) (hsz : ∀ w, (sizeOf e).run P w = .ok 1 w) : KeyOk P kt hsKey where
  check a b w := by
    rw [Instr.checkKey]
    simp only [Sem.run_bind, run_underlying ht, Result.andThen_ok, Std.Legacy.Range.forIn_eq_forIn_range', Std.Legacy.Range.size, Nat.sub_zero, Nat.add_sub_cancel, Nat.div_one]
    have hl : ∀ i ∈ List.range' 0 32 1, i < 32 := fun i hi => by simpa using (List.mem_range'_1.1 hi).2
    have ha := a.2
    generalize List.range' 0 32 1 = l at hl ⊢
    induction l with
    | nil => simp
    | cons i l ih =>
      have hi : i < 32 := hl i (by simp)
      have px : (part e (a.1.map fun b => Value.int .u8 b.toNat).toArray (i * 1)).run P w = .ok (.int .u8 (a.1.getD i 0).toNat) w := by
        simp [part, isAgg, run_underlying he, List.getD, List.getElem?_eq_getElem (show i < a.1.length by omega)]
      have pc : ∀ v, (Instr.checkKey b 9999 e (.int .u8 v)).run P w = .ok () w := fun v => by
        rw [Instr.checkKey]
        simp [run_underlying he]
      simp only [List.forIn_cons, Sem.run_bind, hsz, px, pc, Result.andThen_ok, Sem.run_pure]
      exact ih fun j hj => hl j (by simp [hj])
  find a es l w h := by
    unfold Instr.findKey
    simp only [Sem.run_bind, run_underlying ht, Result.andThen_ok]
    cases es with
    | nil =>
      cases l with
      | nil => simp [Instr.findNow, idxM]
      | cons p l => simp at h
    | cons x es =>
      cases l with
      | nil => simp at h
      | cons p l =>
        have hx : x.key = hsKey p.1 := by simp only [List.map_cons, List.cons.injEq] at h; exact h.1
        have hn : Instr.findNow (.array 32 e) (hsKey a) (x :: es) 0 = none := by rw [Instr.findNow, hx]; rfl
        rw [hn]
        have := asking_ok ht he hsz a w (x :: es) (p :: l) 0 h
        simpa using this
  stays a := by
    show Instr.sameBits 10000 (.agg _) (.agg _) = true
    rw [Instr.sameBits]
    simp only [beq_self_eq_true, Bool.true_and]
    rw [List.all_eq_true]
    intro q hq
    obtain ⟨i, hi, rfl⟩ := List.getElem_of_mem hq
    simp only [List.getElem_zip, List.getElem_map]
    simp [Instr.sameBits]
theorem Is.hs (l : List UInt8) : Is (.agg (l.map fun b => LV.raw (.int .u8 b.toNat))) (.raw (hsV l)) := by
  have := (RawL.map (k := .u8) (l.map UInt8.toNat)).eq
  rw [List.map_map, List.map_map] at this
  have h2 : (l.map fun b => LV.raw (.int .u8 b.toNat)) = raws (l.map fun b => Value.int .u8 b.toNat) := this
  rw [h2]
  exact Is.agg_raw
theorem Is.hk (a : Hs) : Is (.agg (hsL a)) (.raw (hsKey a)) := Is.hs a.1
theorem hsL_nat (a : Hs) : hsL a = (a.1.map UInt8.toNat).map fun (m : Nat) => LV.raw (.int .u8 (m : Int)) := by rw [List.map_map]; rfl
theorem hs_dec (a b : Hs) : decide (a.1.map UInt8.toNat = b.1.map UInt8.toNat) = decide (a = b) := by
  rw [Bool.eq_iff_iff]
  simp only [decide_eq_true_eq, toNat_inj]
  exact ⟨fun h => Subtype.ext h, fun h => by rw [h]⟩
variable {env : List (Nat × LV)} {H : List Atom} {d : Option Tmp} {ty : TypeId} {pos : String} {af : Array Edge} {g : Option (Nat × Bool)}
theorem LU.eqlHs {x y : Operand} {t' : TypeId} {a b : Hs} (ht : P.underlying kt = some (.array 32 e)) (he : P.underlying e = some (.int .u8)) (hsz : ∀ w, (sizeOf e).run P w = .ok 1 w) (hg : P.eqGuardType P.depth kt = false) (hx : Is (ev env x) (.agg (hsL a))) (hy : Is (ev env y) (.agg (hsL b))) : LU P env H ⟨d, .binOp .eql kt x y t', ty, pos, af, g⟩ (.raw (.bool (decide (a = b)))) := by
  rw [hsL_nat] at hx hy
  rw [← hs_dec]
  exact LU.eqlArr ht he hsz hg hx hy (by rw [List.length_map]; exact a.2) (by rw [List.length_map]; exact b.2)
end
end Go.L
namespace Go.L
open Go.RowKit
abbrev ownA (A : Option Nat) (te : TypeId) (xs : List LV) : List Atom := match A with
  | none => []
  | some b => [.cells b te xs]
abbrev ownV (A : Option Nat) (off n c : Nat) : LV := .raw (.slice (A.map fun b => ⟨b, off, none⟩) n c)
/-- xs holds, from off on, room for c elements, the first n of which are es. -/
structure OwnS (size : Nat) (es : List (List LV)) (A : Option Nat) (off n c : Nat) (xs : List LV) : Prop where
  cnt : es.length = n
  le : n ≤ c
  len : off + c * size ≤ xs.length
  cells : (xs.drop off).take (n * size) = es.flatten
  sz : ∀ e ∈ es, e.length = size
  nil : A = none → c = 0
theorem OwnS.none (size : Nat) : OwnS size [] none 0 0 0 [] := ⟨rfl, Nat.le_refl _, by simp, by simp, by simp, fun _ => rfl⟩
theorem flat_len {size : Nat} : ∀ {es : List (List LV)}, (∀ e ∈ es, e.length = size) → es.flatten.length = es.length * size
  | [], _ => by simp
  | e :: es, h => by
    rw [List.flatten_cons, List.length_append, flat_len fun x hx => h x (List.mem_cons_of_mem _ hx), h e (by simp), List.length_cons, Nat.succ_mul, Nat.add_comm]
theorem OwnS.put {size : Nat} {es ys : List (List LV)} {A : Option Nat} {off n c : Nat} {xs : List LV} (h : OwnS size es A off n c xs) (hy : ∀ e ∈ ys, e.length = size) (hr : n + ys.length ≤ c) : OwnS size (es ++ ys) A off (n + ys.length) c (putAt xs (off + n * size) ys.flatten) := by
  have hyl := flat_len hy
  have hel := flat_len h.sz
  rw [h.cnt] at hel
  have hm : (n + ys.length) * size ≤ c * size := Nat.mul_le_mul_right _ hr
  have hd : (n + ys.length) * size = n * size + ys.length * size := Nat.add_mul _ _ _
  have hlen := h.len
  have hfit : off + n * size + ys.flatten.length ≤ xs.length := by omega
  refine ⟨by rw [List.length_append, h.cnt], hr, by rw [putAt_length _ _ _ hfit]; exact h.len, ?_, fun e he => (List.mem_append.1 he).elim (h.sz e) (hy e), h.nil⟩
  apply List.ext_getElem?
  intro i
  rw [List.getElem?_take, List.getElem?_drop, List.flatten_append]
  by_cases hi : i < (n + ys.length) * size
  · rw [if_pos hi, putAt_get _ _ _ hfit]
    by_cases h2 : i < n * size
    · rw [if_neg (by omega), List.getElem?_append_left (by omega), ← h.cells, List.getElem?_take, if_pos h2, List.getElem?_drop]
    · rw [if_pos (by omega), List.getElem?_append_right (by omega), hel]
      congr 1; omega
  · rw [if_neg hi, List.getElem?_eq_none]
    rw [List.length_append]; omega
section
variable {P : Program} {env : List (Nat × LV)} {H : List Atom} {K : LS → Prop} {ty : TypeId} {pos : String} {af : Array Edge} {g : Option (Nat × Bool)} {n0 : NN}
/-- append(s, x..) whose row is owned, or is not there yet. -/
theorem X.appendR {H1 : List Atom} {A : Option Nat} {te : TypeId} {off n c : Nat} {xs : List LV} {s x : Operand} {t tx e : TypeId} {z : Value} {size by_ : Nat} {es ys : List (List LV)} {y : LV} {d : Tmp} (ow : OwnS size es A off n c xs) (hh : HSub H (ownA A te xs ++ H1)) (hd : Nat.blt d n0.k = true) (ht : P.underlying t = some (.slice e)) (hel : El P e z size by_) (hz1 : ∀ (i : Nat) (c : Value), z.cells[i]? = some c → c.oneCell' = true)
    (hs : Is (ev env s) (ownV A off n c)) (hx : Is (ev env x) y) (hy : SrcL P tx size y ys) (hy0 : 0 < ys.length) (hb : (n + ys.length) * by_ ≤ 140737488355328) (hb0 : n + ys.length ≤ 9223372036854775807)
    (h : ∀ b te' off' c' xs', OwnS size (es ++ ys) (some b) off' (n + ys.length) c' xs' → K ⟨n0, (d, ownV (some b) off' (n + ys.length) c') :: env, .cells b te' xs' :: H1⟩) :
    LO P ⟨some d, .call { callee := .builtin .append, args := #[s, x], argTypes := #[t, tx] }, ty, pos, af, g⟩ ⟨n0, env, H⟩ K := .of_run hd fun w0 ph a w rl => by
  have h1 := (hs _ _ (rl.tmps.eval s)).rawE
  have ry := hx _ _ (rl.tmps.eval x)
  obtain ⟨⟨i, hi, hz, hsz, hby⟩, hzs, hs0⟩ := hel
  have hinv0 := hh.app rl.inv
  obtain ⟨news, hsrc, hnc⟩ := hy.2 w0 ph w _ (a.eval x) (by simp) rl.inv ry
  have hnl : news.length = ys.length * size := hsrc.newsLen
  have hyl := flat_len hy.1
  have hrun : ∀ v w', (Builtin.append_ #[t, tx] ty #[.slice (A.map fun b => ⟨b, off, none⟩) n c, a.eval x]).run P w = .ok v w' → (execOp a.eval ⟨some d, .call { callee := .builtin .append, args := #[s, x], argTypes := #[t, tx] }, ty, pos, af, g⟩).run P w = .ok (.value v) w' := fun v w' h => by
    simp [execOp, resolve, invoke, builtin, h1, h]
  by_cases hroom : n + ys.length ≤ c
  · cases A with
    | none => have := ow.nil rfl; omega
    | some b =>
      have hinv : Inv w0 ph w (.cells b te xs :: H1) := hinv0
      have hm : (n + ys.length) * size ≤ c * size := Nat.mul_le_mul_right _ hroom
      have hdm : (n + ys.length) * size = n * size + ys.length * size := Nat.add_mul _ _ _
      have hlen := ow.len
      obtain ⟨hi2, hthere, hfro⟩ := hinv.putCells hnc (off := off + n * size) (by omega)
      have hr := run_append_room_src (P := P) w t tx ty e i ht hi b off n c (a.eval x) ys.length news (hsz ▸ hsrc) hroom (fun j hj => by rw [hsz]; exact hthere j (by omega)) (fun j hj => by rw [hsz]; exact hfro j (by omega))
      rw [hsz] at hr
      exact ⟨_, _, _, ph, _, hrun _ _ hr, PH.le.refl _, hi2, .raw _, h b te off c _ (ow.put hy.1 hroom)⟩
  · have hold : ∃ olds : List Value, CReps ph olds.toArray es.flatten ∧ (Builtin.firstCells i.size n (.slice (A.map fun b => ⟨b, off, none⟩) n c)).run P w.drew = .ok olds.toArray w.drew := by
      have hel2 := flat_len ow.sz
      rw [ow.cnt] at hel2
      cases A with
      | none =>
        have hc0 := ow.nil rfl
        have hn0 : n = 0 := by have := ow.le; omega
        have he0 : es = [] := List.eq_nil_of_length_eq_zero (by rw [ow.cnt]; exact hn0)
        subst hn0; subst he0
        exact ⟨[], ⟨⟨rfl, by simp⟩, by simp⟩, run_firstCells_none _ _ _ _ _⟩
      | some b =>
        have hinv : Inv w0 ph w (.cells b te xs :: H1) := hinv0
        obtain ⟨F, hF, cs, hhp, hc⟩ := hinv.atom
        have hcsz : cs.size = xs.length := hc.1.1
        have hlen := ow.len
        have hm : n * size ≤ c * size := Nat.mul_le_mul_right _ ow.le
        refine ⟨(cs.extract off (off + n * size)).toList, ?_, run_firstCells_some _ _ _ _ _ _ _ (by simp [hsz]; omega) (fun j v hv => ?_)⟩
        · rw [Array.toArray_toList, ← ow.cells]
          refine ⟨⟨by simp; omega, fun i v x hv hx => ?_⟩, fun i v hv => ?_⟩
          · rw [Array.getElem?_extract] at hv
            rw [List.getElem?_take] at hx
            split at hx
            · rw [List.getElem?_drop] at hx
              split at hv
              · exact hc.1.2 _ v x hv hx
              · cases hv
            · cases hx
          · rw [Array.getElem?_extract] at hv
            split at hv
            · exact hc.2 _ v hv
            · cases hv
        · rw [Array.getElem?_toList, Array.getElem?_extract] at hv
          split at hv
          · show w.drew.cell? ((⟨b, off, none⟩ : Addr).add j) = some v
            rw [Addr.add_lit]
            show w.cell? ⟨b, off + j, none⟩ = some v
            rw [cell_of_row w b (off + j) cs te (0, 0) hhp]
            exact hv
          · cases hv
    obtain ⟨olds, ho, hold⟩ := hold
    have hr := run_append_grow_src (P := P) w t tx ty e i z ht hi hz (A.map fun b => ⟨b, off, none⟩) n c olds hold (a.eval x) ys.length news (hsz ▸ hsrc) (by omega) (by omega) (by rw [hby]; exact growslice_fits (by omega) hb)
    have hge := grownCap_ge w (n + ys.length) c e
    have hb' : Below w.heap.size w w.drew := Below.drew (Below.refl _ _)
    have hinv1 : Inv w0 ph w H1 := by
      cases A with
      | none => exact hinv0
      | some b => exact (HSub.drop (HSub.refl _)).app hinv0
    have hinv2 := hinv1.step hb'
    have hzc : CReps ph (Builtin.zeroCells z.cells (grownCap w (n + ys.length) c e - (n + ys.length))).toList.toArray (raws (Builtin.zeroCells z.cells (grownCap w (n + ys.length) c e - (n + ys.length))).toList) := by
      rw [Array.toArray_toList]
      refine raws_creps fun j c hc => ?_
      unfold Builtin.zeroCells at hc
      simp only [Array.getElem?_map, Option.map_eq_some_iff] at hc
      obtain ⟨q, _, rfl⟩ := hc
      have hlt : q % z.cells.size < z.cells.size := Nat.mod_lt _ (by omega)
      refine hz1 (q % z.cells.size) _ ?_
      rw [Array.getElem?_eq_getElem hlt, getElem!_pos z.cells _ hlt]
    have hall := creps_append (creps_append ho hnc) hzc
    have hinv3 := hinv2.block e hall
    have hel2 := flat_len ow.sz
    rw [ow.cnt] at hel2
    have hzl : (raws (Builtin.zeroCells z.cells (grownCap w (n + ys.length) c e - (n + ys.length))).toList).length = (grownCap w (n + ys.length) c e - (n + ys.length)) * size := by simp only [raws, List.length_map, Array.length_toList, size_zeros, hzs]
    refine ⟨_, _, _, ph, _, hrun _ _ hr, PH.le.refl _, ?_, .raw _, h w.heap.size e 0 (grownCap w (n + ys.length) c e) (es.flatten ++ ys.flatten ++ raws (Builtin.zeroCells z.cells (grownCap w (n + ys.length) c e - (n + ys.length))).toList) ⟨by rw [List.length_append, ow.cnt], hge, ?_, ?_, fun e he => (List.mem_append.1 he).elim (ow.sz e) (hy.1 e), fun h => by cases h⟩⟩
    · have e1 : ((olds ++ news).toArray ++ Builtin.zeroCells z.cells (grownCap w (n + ys.length) c e - (n + ys.length))) = ((olds ++ news) ++ (Builtin.zeroCells z.cells (grownCap w (n + ys.length) c e - (n + ys.length))).toList).toArray := by simp
      rw [e1]
      exact hinv3
    · refine Nat.le_of_eq (Eq.symm ?_)
      rw [List.length_append, List.length_append, hel2, hyl, hzl, Nat.zero_add, ← Nat.add_mul, ← Nat.add_mul]
      congr 1; omega
    · rw [List.drop_zero, List.flatten_append, List.take_append_of_le_length (by rw [List.length_append, hel2, hyl, ← Nat.add_mul]; exact Nat.le_refl _), List.take_of_length_le (by rw [List.length_append, hel2, hyl, ← Nat.add_mul]; exact Nat.le_refl _)]
end
theorem LO.ghost {P : Program} {o : Oper} {st : LS} {H' : List Atom} {K : LS → Prop} (hh : HSub st.heap H') (h : LO P o ⟨st.n, st.env, H'⟩ K) : LO P o st K := fun w0 ph a w r => h w0 ph a w ⟨hh.app r.inv, r.defers, r.size, r.tmps⟩
end Go.L
namespace Go.L
open Go.RowKit
structure Vx where
  p : Hs
  n : Int
deriving DecidableEq
abbrev vxs1 (a : Vx) : List Value := (a.p.1.map fun b => Value.int .u8 b.toNat) ++ [.int .i64 a.n]
abbrev vxV (a : Vx) : Value := .agg (vxs1 a).toArray
abbrev vxL (a : Vx) : List LV := hsL a.p ++ [.raw (.int .i64 a.n)]
theorem vx_ext {a b : Vx} (h1 : a.p = b.p) (h2 : a.n = b.n) : a = b := by cases a; cases b; simp at h1 h2; simp [h1, h2]
theorem vx_raw (a : Vx) : RawL (vxL a) (vxs1 a) := by
  have h : vxL a = raws (vxs1 a) := by
    unfold raws vxs1
    rw [List.map_append, List.map_map]; rfl
  rw [h]
  exact RawL.raws _
theorem vxL_len (a : Vx) : (vxL a).length = 33 := by simp [a.p.2]
/-- A type of a hash and a number. -/
structure VxTy (P : Program) (kt : TypeId) : Prop where
  ex : ∃ (fs : Array Field) (f0 f1 : Field) (e : TypeId), P.underlying kt = some (.struct fs) ∧ fs.toList = [f0, f1] ∧ P.stoodInHeld kt = false ∧ P.eqGuardType P.depth kt = false ∧ (f0.name != "_") = true ∧ (f1.name != "_") = true ∧ f0.offset = 0 ∧ f1.offset = 32 ∧
    P.underlying f0.type = some (.array 32 e) ∧ P.underlying e = some (.int .u8) ∧ (∀ w, (sizeOf e).run P w = .ok 1 w) ∧ (∀ w, (sizeOf f0.type).run P w = .ok 32 w) ∧ (∀ w, (isAgg f0.type).run P w = .ok true w) ∧ P.underlying f1.type = some (.int .i64) ∧ (∀ w, (isAgg f1.type).run P w = .ok false w)
section
variable {P : Program} {kt : TypeId}
theorem vx_part0 (a : Vx) : (vxs1 a).toArray.extract 0 (0 + 32) = (a.p.1.map fun b => Value.int .u8 b.toNat).toArray := by
  rw [List.extract_toArray, List.extract_eq_take_drop]
  simp only [List.drop_zero, Nat.zero_add, Nat.sub_zero]
  rw [List.take_left' (by rw [List.length_map]; exact a.p.2)]
theorem vx_part1 (a : Vx) : (vxs1 a).toArray[32]? = some (.int .i64 a.n) := by
  rw [List.getElem?_toArray, List.getElem?_append_right (by rw [List.length_map, a.p.2]; exact Nat.le_refl _), List.length_map, a.p.2]; rfl
theorem EqR.vx (h : VxTy P kt) (a b : Vx) : EqR P 3 kt (vxV a) (vxV b) (decide (a = b)) := by
  obtain ⟨fs, f0, f1, e, ht, hfs, hst, hg, hn0, hn1, ho0, ho1, ht0, he, hse, hs0, ha0, ht1, ha1⟩ := h.ex
  have h0 : EqR P 2 f0.type (.agg (a.p.1.map fun b => Value.int .u8 b.toNat).toArray) (.agg (b.p.1.map fun b => Value.int .u8 b.toNat).toArray) (decide (a.p = b.p)) := by
    have := EqR.arr ht0 he hse (k := .u8) (a.p.1.map UInt8.toNat) (b.p.1.map UInt8.toNat) (by rw [List.length_map]; exact a.p.2) (by rw [List.length_map]; exact b.p.2)
    rw [← hs_nat, ← hs_nat, hs_dec] at this
    exact this
  have h1 : EqR P 2 f1.type (.int .i64 a.n) (.int .i64 b.n) (decide (a.n = b.n)) := EqR.up 1 (EqR.int ht1)
  have := EqR.struct (xs := (vxs1 a).toArray) (ys := (vxs1 b).toArray) ht hst (by
    rw [hfs]
    exact EqFs.cons hn0 (part_agg hs0 ha0 (by rw [ho0]; exact vx_part0 a)) (part_agg hs0 ha0 (by rw [ho0]; exact vx_part0 b)) h0
      (EqFs.one hn1 (part_one ha1 (by rw [ho1]; exact vx_part1 a)) (part_one ha1 (by rw [ho1]; exact vx_part1 b)) h1))
  have hd : (decide (a.p = b.p) && decide (a.n = b.n)) = decide (a = b) := by
    rw [Bool.eq_iff_iff]
    simp only [Bool.and_eq_true, decide_eq_true_eq]
    exact ⟨fun ⟨x, y⟩ => vx_ext x y, fun x => by rw [x]; exact ⟨rfl, rfl⟩⟩
  rw [hd] at this
  exact this
theorem eq_vx (h : VxTy P kt) (a b : Vx) (w : World) : (Op.equal kt (vxV a) (vxV b)).run P w = .ok (decide (b = a)) w := by
  have := EqR.vx h a b 9997 w
  rw [show decide (a = b) = decide (b = a) from by rw [Bool.eq_iff_iff]; simp only [decide_eq_true_eq]; exact ⟨Eq.symm, Eq.symm⟩] at this
  exact this
theorem asking_vx (h : VxTy P kt) (a : Vx) (w : World) : ∀ (es : List MapEntry) (l : List (Vx × LV)) (n : Nat), es.map (·.key) = l.map (fun p => vxV p.1) → (Instr.findAsking kt (vxV a) es n).run P w = .ok ((idxM l a).bind fun i => (es[i]?).map fun x => (n + i, x.val)) w
  | [], [], n, _ => by simp [Instr.findAsking, idxM]
  | [], p :: l, n, h => by simp at h
  | x :: es, [], n, h => by simp at h
  | x :: es, p :: l, n, hh => by
    simp only [List.map_cons, List.cons.injEq] at hh
    rw [Instr.findAsking]
    simp only [Sem.run_bind, hh.1, eq_vx h a p.1 w, Result.andThen_ok]
    by_cases c : p.1 = a
    · simp [idxM, c]
    · have ih := asking_vx h a w es l (n + 1) hh.2
      simp only [c, decide_false, Bool.false_eq_true, if_false, idxM]
      rw [ih]
      cases idxM l a with
      | none => rfl
      | some i => simp only [Option.bind_some, Option.map_some, List.getElem?_cons_succ]; rw [show n + 1 + i = n + (i + 1) by omega]
theorem check_arr {t e : TypeId} (ht : P.underlying t = some (.array 32 e)) (he : P.underlying e = some (.int .u8)) (hsz : ∀ w, (sizeOf e).run P w = .ok 1 w) (a : Hs) (n : Nat) (b : Bool) (w : World) : (Instr.checkKey b (n + 2) t (hsKey a)).run P w = .ok () w := by
  rw [Instr.checkKey]
  simp only [Sem.run_bind, run_underlying ht, Result.andThen_ok, Std.Legacy.Range.forIn_eq_forIn_range', Std.Legacy.Range.size, Nat.sub_zero, Nat.add_sub_cancel, Nat.div_one]
  have hl : ∀ i ∈ List.range' 0 32 1, i < 32 := fun i hi => by simpa using (List.mem_range'_1.1 hi).2
  have ha := a.2
  generalize List.range' 0 32 1 = l at hl ⊢
  induction l with
  | nil => simp
  | cons i l ih =>
    have hi : i < 32 := hl i (by simp)
    have px : (part e (a.1.map fun b => Value.int .u8 b.toNat).toArray (i * 1)).run P w = .ok (.int .u8 (a.1.getD i 0).toNat) w := by
      simp [part, isAgg, run_underlying he, List.getD, List.getElem?_eq_getElem (show i < a.1.length by omega)]
    have pc : ∀ v, (Instr.checkKey b (n + 1) e (.int .u8 v)).run P w = .ok () w := fun v => by
      rw [Instr.checkKey]
      simp [run_underlying he]
    simp only [List.forIn_cons, Sem.run_bind, hsz, px, pc, Result.andThen_ok, Sem.run_pure]
    exact ih fun j hj => hl j (by simp [hj])
theorem KeyOk.vx (h : VxTy P kt) : KeyOk P kt vxV where
  check a b w := by
    obtain ⟨fs, f0, f1, e, ht, hfs, hst, hg, hn0, hn1, ho0, ho1, ht0, he, hse, hs0, ha0, ht1, ha1⟩ := h.ex
    rw [Instr.checkKey]
    have p0 : (part f0.type (vxs1 a).toArray f0.offset).run P w = .ok (hsKey a.p) w := part_agg hs0 ha0 (by rw [ho0]; exact vx_part0 a) w
    have p1 : (part f1.type (vxs1 a).toArray f1.offset).run P w = .ok (.int .i64 a.n) w := part_one ha1 (by rw [ho1]; exact vx_part1 a) w
    have c0 := check_arr ht0 he hse a.p 9997 b w
    have c1 : (Instr.checkKey b 9999 f1.type (.int .i64 a.n)).run P w = .ok () w := by
      rw [Instr.checkKey]
      simp [run_underlying ht1]
    have n0 : f0.name ≠ "_" := by simpa using hn0
    have n1 : f1.name ≠ "_" := by simpa using hn1
    have hfa : fs = #[f0, f1] := by rw [← Array.toArray_toList (xs := fs), hfs]
    simp only [Sem.run_bind, run_underlying ht, Result.andThen_ok, hfa]
    simp [n0, n1, p0, p1, c0, c1]
  find a es l w hh := by
    obtain ⟨fs, f0, f1, e, ht, _⟩ := h.ex
    unfold Instr.findKey
    simp only [Sem.run_bind, run_underlying ht, Result.andThen_ok]
    cases es with
    | nil =>
      cases l with
      | nil => simp [Instr.findNow, idxM]
      | cons p l => simp at hh
    | cons x es =>
      cases l with
      | nil => simp at hh
      | cons p l =>
        have hx : x.key = vxV p.1 := by simp only [List.map_cons, List.cons.injEq] at hh; exact hh.1
        have hn : Instr.findNow (.struct fs) (vxV a) (x :: es) 0 = none := by rw [Instr.findNow, hx]; rfl
        rw [hn]
        have := asking_vx h a w (x :: es) (p :: l) 0 hh
        simpa using this
  stays a := by
    show Instr.sameBits 10000 (.agg _) (.agg _) = true
    rw [Instr.sameBits]
    simp only [beq_self_eq_true, Bool.true_and]
    rw [List.all_eq_true]
    intro q hq
    obtain ⟨i, hi, rfl⟩ := List.getElem_of_mem hq
    simp only [List.getElem_zip, List.getElem_toArray]
    have : ∀ v ∈ vxs1 a, Instr.sameBits 9999 v v = true := fun v hv => by
      rcases List.mem_append.1 hv with e | e
      · obtain ⟨x, _, rfl⟩ := List.mem_map.1 e
        simp [Instr.sameBits]
      · rw [List.mem_singleton.1 e]; simp [Instr.sameBits]
    exact this _ (List.getElem_mem _)
theorem Is.vx (a : Vx) : Is (.agg (vxL a)) (.raw (vxV a)) := by
  rw [(vx_raw a).eq]
  exact Is.agg_raw
variable {env : List (Nat × LV)} {H : List Atom} {d : Option Tmp} {ty : TypeId} {pos : String} {af : Array Edge} {g : Option (Nat × Bool)}
theorem LU.eqlVx {x y : Operand} {t' : TypeId} {a b : Vx} (h : VxTy P kt) (hx : Is (ev env x) (.agg (vxL a))) (hy : Is (ev env y) (.agg (vxL b))) : LU P env H ⟨d, .binOp .eql kt x y t', ty, pos, af, g⟩ (.raw (.bool (decide (a = b)))) := by
  obtain ⟨fs, f0, f1, e, ht, hfs, hst, hg, _⟩ := id h.ex
  exact LU.eqlA hx hy (vx_raw a) (vx_raw b) hg (by decide) (EqR.vx h a b)
theorem LU.neqVx {x y : Operand} {t' : TypeId} {a b : Vx} (h : VxTy P kt) (hx : Is (ev env x) (.agg (vxL a))) (hy : Is (ev env y) (.agg (vxL b))) : LU P env H ⟨d, .binOp .neq kt x y t', ty, pos, af, g⟩ (.raw (.bool (!decide (a = b)))) := by
  obtain ⟨fs, f0, f1, e, ht, hfs, hst, hg, _⟩ := id h.ex
  exact LU.neqA hx hy (vx_raw a) (vx_raw b) hg (by decide) (EqR.vx h a b)
end
end Go.L
namespace Go.L
open Go.RowKit Go.Lib
theorem ext_compare {P : Program} (a b : List UInt8) (pa pb : Addr) (ka kb : Nat) (W : World) (ha : ∀ j x, a[j]? = some x → W.cell? (pa.add j) = some (.int .u8 x.toNat)) (hb : ∀ j x, b[j]? = some x → W.cell? (pb.add j) = some (.int .u8 x.toNat)) :
    (Extern.BytealgCompare.compare #[.slice (some pa) a.length ka, .slice (some pb) b.length kb]).run P W = .ok (.int .i64 (compareBytes a b)) W := by
  have key : ∀ (l : List UInt8) (p : Addr), (∀ j x, l[j]? = some x → W.cell? (p.add j) = some (.int .u8 x.toNat)) → (Extern.Bytes.loadBytes p l.length .empty).run P W = .ok ⟨l.toArray⟩ W := fun l p h => by
    have h1 := run_loadBytesX (P := P) W (numsL l) p .empty (fun j x hx => by
      unfold numsL at hx
      rw [List.getElem?_map] at hx
      cases hl : l[j]? with
      | none => rw [hl] at hx; cases hx
      | some y => rw [hl] at hx; rw [h j y hl, ← Option.some.inj hx])
    rw [show (numsL l).length = l.length by unfold numsL; exact List.length_map ..] at h1
    rw [h1, bytesOf_numsL]
    congr 1
    apply ByteArray.ext
    show (#[] : Array UInt8) ++ l.toArray = l.toArray
    simp
  have h1 := key a pa ha
  have h2 := key b pb hb
  change Sem.run P (do pure (goInt (Extern.BytealgCompare.cmp (← Extern.Bytes.bytesOf (.slice (some pa) a.length ka)) (← Extern.Bytes.bytesOf (.slice (some pb) b.length kb))))) W = _
  simp only [Extern.Bytes.bytesOf, Sem.run_bind, h1, h2, Sem.run_pure, Result.andThen_ok]
  rw [cmp_eq]
  rfl
theorem bytes_form {w0 : Base} {ph : PH} {w : World} {H : List Atom} {u : Value} {l : List UInt8} {k : Cap} (hinv : Inv w0 ph w H) (h0 : l ≠ []) (r : Rep ph u (.sl 1 (byteEls l) k)) : ∃ p c, u = .slice (some p) l.length c ∧ ∀ j x, l[j]? = some x → w.cell? (p.add j) = some (.int .u8 x.toNat) := by
  obtain ⟨A, n, c, hu⟩ := rep_slice_form r
  rw [hu] at r
  obtain ⟨hn, hcell⟩ := bytes_cells hinv r
  cases A with
  | none =>
    cases l with
    | nil => exact absurd rfl h0
    | cons b l =>
      cases r with | sl _ _ _ _ _ _ ad u hA hn hnc hs hcap hp hr =>
        have := hA (by simp [byteEls])
        cases this
  | some p =>
    refine ⟨p, c, by rw [hu, hn], fun j x hx => ?_⟩
    have := hcell p rfl j (.int .u8 x.toNat) (by rw [List.getElem?_map, hx]; rfl)
    exact this
section
variable {P : Program} {env : List (Nat × LV)} {H : List Atom} {d : Option Tmp} {ty : TypeId} {pos : String} {af : Array Edge} {g : Option (Nat × Bool)}
theorem LU.bcmp {f : FuncId} {fn : Func} {x y : Operand} {ts : Array TypeId} {a b : List UInt8} {ka kb : Cap} (hf : P.funcs[f]? = some fn) (hname : (fn.name == "runtime.NumGoroutine") = false) (hb : fn.body.isNone = true) (hn : Extern.findNext fn = none) (he : Extern.find fn = some Extern.BytealgCompare.compare) (ha0 : a ≠ []) (hb0 : b ≠ [])
    (hx : Is (ev env x) (.sl 1 (byteEls a) ka)) (hy : Is (ev env y) (.sl 1 (byteEls b) kb)) : LU P env H ⟨d, .call { callee := .value (.func f), args := #[x, y], argTypes := ts }, ty, pos, af, g⟩ (.raw (.int .i64 (compareBytes a b))) := .of_run fun ph ac hl w0 w hinv => by
  obtain ⟨pa, ca, h1, h2⟩ := bytes_form hinv ha0 (hx _ _ (hl x (by simp [Op.operands, Call.operands])))
  obtain ⟨pb, cb, h3, h4⟩ := bytes_form hinv hb0 (hy _ _ (hl y (by simp [Op.operands, Call.operands])))
  refine ⟨_, ?_, .raw _⟩
  have e : (execOp ac.eval ⟨d, .call { callee := .value (.func f), args := #[x, y], argTypes := ts }, ty, pos, af, g⟩).run P w = (callFunc f #[ac.eval x, ac.eval y]).run P w := by
    simp [execOp, resolve, Deferred.ofValue, invoke, Act.eval]
  rw [e, h1, h3, run_callFunc_extern hf hname hb hn he, ext_compare a b pa pb ca cb w h2 h4]
  rfl
end
end Go.L
namespace Go.L
open Go.RowKit
theorem zero_one (zs : Array Value) : (Builtin.zeroCells zs 1).toList = zs.toList := by
  unfold Builtin.zeroCells
  apply List.ext_getElem
  · simp
  · intro i h1 h2
    have hi : i < zs.size := by simpa using h2
    simp only [Array.toList_map, Array.toList_range, List.getElem_map, List.getElem_range, Nat.mod_eq_of_lt hi]
    rw [getElem!_pos zs i hi]
    simp
theorem run_clear_one {P : Program} (w : World) (t e ty : TypeId) (z : Value) (ht : P.underlying t = some (.slice e)) (hv : ∀ w, (zeroValue e).run P w = .ok z w) (h1 : ∀ v ∈ z.cells.toList, v.oneCell' = true) (b o c : Nat)
    (hc : ∀ j, j < z.cells.toList.length → (w.cell? ⟨b, o + j, none⟩).isSome = true) (hf : ∀ j, j < z.cells.toList.length → w.frozen? ⟨b, o + j, none⟩ = false) :
    (Builtin.clear_ #[t] ty #[.slice (some ⟨b, o, none⟩) 1 c]).run P w = .ok (.tuple #[]) (w.setCells b o z.cells.toList) := by
  have hst := run_storeCells_cells (P := P) b o z.cells.toList 0 w (by simpa using hc) (by simpa using hf) h1
  simp only [Nat.add_zero] at hst
  simp [Builtin.clear_, run_underlying ht, hv, zero_one, hst]
theorem LO.clear1 {P : Program} {st : LS} {K : LS → Prop} {ty : TypeId} {pos : String} {af : Array Edge} {g : Option (Nat × Bool)} {s : Operand} {t e te : TypeId} {z : Value} {b off c : Nat} {xs : List LV} (k : Nat) (hk : st.heap[k]? = some (.cells b te xs)) (ht : P.underlying t = some (.slice e)) (hv : ∀ w, (zeroValue e).run P w = .ok z w) (h1z : ∀ (i : Nat) (c : Value), z.cells[i]? = some c → c.oneCell' = true)
    (hs : Is (ev st.env s) (.raw (.slice (some ⟨b, off, none⟩) 1 c))) (hfit : off + z.cells.toList.length ≤ xs.length)
    (h : K ⟨st.n, st.env, .cells b te (putAt xs off (raws z.cells.toList)) :: st.heap.eraseIdx k⟩) :
    LO P ⟨none, .call { callee := .builtin .clear, args := #[s], argTypes := #[t] }, ty, pos, af, g⟩ st K := fun w0 ph a w rl N Q kk => by
  have h1 := (hs _ _ (rl.tmps.eval s)).rawE
  have hinv := rl.inv.front k
  unfold L.front at hinv
  rw [hk] at hinv
  have hc : CReps ph z.cells.toList.toArray (raws z.cells.toList) := by
    rw [Array.toArray_toList]
    exact raws_creps h1z
  obtain ⟨hi2, hthere, hfro⟩ := hinv.putCells hc (off := off) (by simpa [raws] using hfit)
  have hr := run_clear_one (P := P) w t e ty z ht hv (fun v hv => by
    obtain ⟨i, hi⟩ := List.getElem?_of_mem hv
    exact h1z i v (by rw [← Array.getElem?_toList]; exact hi)) b off c (by simpa [raws] using hthere) (by simpa [raws] using hfro)
  unfold owp
  have hrun : (execOp a.eval ⟨none, .call { callee := .builtin .clear, args := #[s], argTypes := #[t] }, ty, pos, af, g⟩).run P w = .ok (.value (.tuple #[])) (w.setCells b off z.cells.toList) := by
    simp [execOp, resolve, invoke, builtin, h1, hr]
  rw [hrun]
  exact kk ph _ _ _ (PH.le.refl _) (rl.put0 (PH.le.refl _) hi2 _) h
/-- An owned slice without one of its elements, when what is behind it has moved up. -/
theorem OwnS.erase {size : Nat} {es : List (List LV)} {A : Option Nat} {off n c : Nat} {xs zs : List LV} (h : OwnS size es A off n c xs) {i : Nat} (hi : i < n) (hz : zs.length = size) :
    OwnS size (es.eraseIdx i) A off (n - 1) c (putAt (putAt xs (off + i * size) (es.drop (i + 1)).flatten) (off + (n - 1) * size) zs) := by
  have hcnt := h.cnt
  have hle := h.le
  have hlen := h.len
  have hf1 : (es.take i).flatten.length = i * size := by
    rw [flat_len fun e he => h.sz e (List.mem_of_mem_take he), List.length_take, Nat.min_eq_left (by omega)]
  have hf2 : (es.drop (i + 1)).flatten.length = (n - 1 - i) * size := by
    rw [flat_len fun e he => h.sz e (List.mem_of_mem_drop he), List.length_drop, hcnt, show n - (i + 1) = n - 1 - i by omega]
  have hs1 : (n - 1) * size = i * size + (n - 1 - i) * size := by rw [← Nat.add_mul, show i + (n - 1 - i) = n - 1 by omega]
  have hs2 : n * size = (n - 1) * size + size := by
    obtain ⟨q, rfl⟩ : ∃ q, n = q + 1 := ⟨n - 1, by omega⟩
    rw [Nat.succ_mul]; rfl
  have hs3 : n * size ≤ c * size := Nat.mul_le_mul_right _ hle
  have hfit1 : off + i * size + (es.drop (i + 1)).flatten.length ≤ xs.length := by omega
  obtain ⟨X, hX⟩ : ∃ X, X = putAt xs (off + i * size) (es.drop (i + 1)).flatten := ⟨_, rfl⟩
  have hXl : X.length = xs.length := by rw [hX]; exact putAt_length _ _ _ hfit1
  have hfit2 : off + (n - 1) * size + zs.length ≤ X.length := by omega
  rw [← hX]
  refine ⟨by rw [List.length_eraseIdx_of_lt (by omega)]; omega, by omega, by rw [putAt_length _ _ _ hfit2]; omega, ?_, fun e he => h.sz e (List.mem_of_mem_eraseIdx he), h.nil⟩
  have hold : (xs.drop off).take (i * size) = (es.take i).flatten := by
    have h2 := congrArg (List.take (i * size)) h.cells
    rw [List.take_take, Nat.min_eq_left (by omega)] at h2
    rw [h2]
    conv => lhs; rw [← List.take_append_drop i es, List.flatten_append]
    rw [List.take_left' hf1]
  have hX2 : (X.drop off).take ((n - 1) * size) = (es.take i).flatten ++ (es.drop (i + 1)).flatten := by
    rw [hX]
    unfold putAt
    have ht : (xs.take (off + i * size)).drop off = (es.take i).flatten := by
      rw [List.drop_take, Nat.add_sub_cancel_left]; exact hold
    rw [List.append_assoc, List.drop_append_of_le_length (by rw [List.length_take]; omega), ht, ← List.append_assoc, List.take_append_of_le_length (by rw [List.length_append, hf1, hf2]; omega), List.take_of_length_le (by rw [List.length_append, hf1, hf2]; omega)]
  rw [List.eraseIdx_eq_take_drop_succ, List.flatten_append, ← hX2]
  unfold putAt
  rw [List.append_assoc, List.drop_append_of_le_length (by rw [List.length_take]; omega), List.drop_take, Nat.add_sub_cancel_left, List.take_append_of_le_length (by rw [List.length_take, List.length_drop]; omega), List.take_take, Nat.min_self]
end Go.L
namespace Go.L
open Go.RowKit
section
variable {P : Program} {st : LS} {K : LS → Prop}
/-- An owned slice is from now on known: between operations. -/
theorem LL.freezeO {ops : Array Oper} {l : List Oper} {t : Nat} {b : Nat} {te : TypeId} {xs : List LV} {off n c size : Nat} {es : List (List LV)} (k : Nat) (hk : st.heap[k]? = some (.cells b te xs)) (ht : get st.env t = ownV (some b) off n c) (ow : OwnS size es (some b) off n c xs)
    (h : LL P ops l ⟨st.n, (t, .sl size es .unk) :: st.env, st.heap.eraseIdx k⟩ K) : LL P ops l st K := fun w0 ph a w r Q q => by
  have hinv := r.inv.front k
  unfold L.front at hinv
  rw [hk] at hinv
  obtain ⟨cs, ph', hle, hi, hc, hsz, hp⟩ := hinv.freeze
  refine h w0 ph' a w ⟨hi, r.defers, r.size, fun i => ?_⟩ Q fun ph2 st2 a2 w2 hle2 r2 q2 => q ph2 st2 a2 w2 (hle.trans hle2) r2 q2
  have hm : n * size ≤ c * size := Nat.mul_le_mul_right _ ow.le
  have hl := ow.len
  by_cases hit : t = i
  · subst hit
    rw [get_same]
    have := r.tmps t
    rw [ht] at this
    rw [this.rawE]
    exact freeze_rep hc hp ow.sz ow.cnt (by omega) ow.cells.symm ow.le
  · rw [get_other hit]
    exact (r.tmps i).mono hle
end
section
variable {P : Program} {st : LS} {K : LS → Prop} {ty : TypeId} {pos : String} {af : Array Edge} {g : Option (Nat × Bool)}
theorem LO.of_val0 {op : Op} (h : ∀ w0 ph a w, Rels w0 ph st a w → ∃ v w' ph' H', (execOp a.eval ⟨none, op, ty, pos, af, g⟩).run P w = .ok (.value v) w' ∧ PH.le ph ph' ∧ Inv w0 ph' w' H' ∧ K ⟨st.n, st.env, H'⟩) : LO P ⟨none, op, ty, pos, af, g⟩ st K := fun w0 ph a w rl N Q kk => by
  obtain ⟨v, w', ph', H', hrun, hle, hi, hK⟩ := h w0 ph a w rl
  unfold owp
  rw [hrun]
  exact kk ph' _ _ _ hle (rl.put0 hle hi _) hK
/-- delete(m, a), which writes no slot -/
theorem LO.mapDelete0 {x y : Operand} {t kt kt2 et : TypeId} {m : Nat} {κ : Type} [DecidableEq κ] {key : κ → Value} {l : List (κ × LV)} {a : κ} (k : Nat) (Ko : KeyOk P kt key) (hk : st.heap[k]? = some (.map m (mp key l))) (ht : P.underlying t = some (.map kt et)) (hx : Is (ev st.env x) (.raw (.map (some m)))) (hy : Is (ev st.env y) (.raw (key a)))
    (h : K ⟨st.n, st.env, .map m (mp key (delM l a)) :: st.heap.eraseIdx k⟩) : LO P ⟨none, .call { callee := .builtin .delete, args := #[x, y], argTypes := #[t, kt2] }, ty, pos, af, g⟩ st K := .of_val0 fun w0 ph ac w r => by
  have h1 := (hx _ _ (r.tmps.eval x)).rawE
  have h2 := (hy _ _ (r.tmps.eval y)).rawE
  have hinv := r.inv.front k
  unfold L.front at hinv
  rw [hk] at hinv
  obtain ⟨F, hF, ents, clock, hh, hsz, hreps, hpw⟩ := hinv.atom
  have hkeys := map_keys hsz hreps
  have hf := Ko.find a ents.toList l w hkeys
  have hlen : ents.size = l.length := by rw [hsz, List.length_map]
  have hlt := lt_of_some hh
  cases hi : idxM l a with
  | none =>
    rw [hi] at hf
    simp only [Option.bind_none] at hf
    have hset : delM l a = l := by unfold delM; rw [hi]
    refine ⟨.tuple #[], w.putObj m (.map ents clock), ph, _, ?_, PH.le.refl _, hinv.turn (a' := .map m (mp key (delM l a))) (PH.le.refl _) (fun G hG hn => ⟨Chg.put _ (fun o => (hG.1 m o).2 rfl), G, ⟨hG.1, _, _, World.putObj_heap_same hlt, by rw [hset]; exact hsz, by rw [hset]; exact hreps, hpw⟩, fun b o hb => .inl hb, fun p u hp => .inl hp⟩), h⟩
    simp [execOp, resolve, invoke, builtin, h1, h2, Builtin.delete_, run_underlying ht, MapKept.run_getObj_map hh, Ko.check, hf, MapKept.run_setObj_map _ hh, World.putObj]
  | some i =>
    rw [hi] at hf
    obtain ⟨u, hu⟩ := idxM_some hi
    have hil := (List.getElem?_eq_some_iff.1 hu).1
    have hie : i < ents.size := by omega
    simp only [Option.bind_some, Array.getElem?_toList, Array.getElem?_eq_getElem hie, Option.map_some] at hf
    have hset : delM l a = l.eraseIdx i := by unfold delM; rw [hi]
    have het : (ents.eraseIdxIfInBounds i).toList = ents.toList.eraseIdx i := by simp [Array.eraseIdxIfInBounds, hie]
    refine ⟨.tuple #[], w.putObj m (.map (ents.eraseIdxIfInBounds i) clock), ph, _, ?_, PH.le.refl _, hinv.turn (a' := .map m (mp key (delM l a))) (PH.le.refl _) (fun G hG hn => ⟨Chg.put _ (fun o => (hG.1 m o).2 rfl), G, ⟨hG.1, _, _, World.putObj_heap_same hlt, ?_, fun j e kv he hkv => ?_, ?_⟩, fun b o hb => .inl hb, fun p u hp => .inl hp⟩), h⟩
    · simp [execOp, resolve, invoke, builtin, h1, h2, Builtin.delete_, run_underlying ht, MapKept.run_getObj_map hh, Ko.check, hf, MapKept.run_setObj_map _ hh, World.putObj]
    · rw [hset, ← Array.length_toList, het, List.length_map, List.length_eraseIdx_of_lt (by simpa using hie), List.length_eraseIdx_of_lt hil, Array.length_toList, hlen]
    · rw [hset] at hkv
      rw [← Array.getElem?_toList, het, List.getElem?_eraseIdx] at he
      rw [List.getElem?_map, List.getElem?_eraseIdx] at hkv
      by_cases c : j < i
      · rw [if_pos c] at he hkv
        exact hreps j e kv (by simpa using he) (by rw [List.getElem?_map]; exact hkv)
      · rw [if_neg c] at he hkv
        exact hreps (j + 1) e kv (by simpa using he) (by rw [List.getElem?_map]; exact hkv)
    · rw [het]
      exact hpw.sublist ((List.eraseIdx_sublist _ _).map _)
end
/-- A result told otherwise. -/
theorem LCalls.isR {P : Program} {f : FuncId} {args : List LV} {H : List Atom} {Q : List Atom → Prop} {v v' : LV} (hi : Is v v') (h : LCalls P f args H (fun r H' => r = v ∧ Q H')) : LCalls P f args H (fun r H' => r = v' ∧ Q H') :=
  fun R w0 ph w vs i r => (h R w0 ph w vs i r).mono fun e w' ⟨u, ph', x, H', h1, h2, h3, h4, h5, h6⟩ => by
    subst h5
    exact ⟨u, ph', v', H', h1, h2, h3, hi _ _ h4, rfl, h6⟩
/-- What is given back may be owned in another order. -/
theorem LCalls.give {P : Program} {f : FuncId} {args : List LV} {H : List Atom} {post post' : LV → List Atom → Prop} (h : LCalls P f args H post) (hg : ∀ r H', post r H' → ∃ K, HSub H' K ∧ post' r K) : LCalls P f args H post' :=
  fun R w0 ph w vs i r => (h R w0 ph w vs i r).mono fun e w' ⟨v, ph', x, H', h1, h2, h3, h4, h5⟩ => by
    obtain ⟨K, hk, hp⟩ := hg x H' h5
    exact ⟨v, ph', x, K, h1, h2, (HSub.appR R hk).app h3, h4, hp⟩
end Go.L
namespace Go.Proofs.YtolpkeajokjbjaaDoor
open Go.RowKit Go.L
attribute [local irreducible] LL LW LO
abbrev i64 (n : Int) : LV := .raw (.int .i64 n)
abbrev bl (b : Bool) : LV := .raw (.bool b)
abbrev pt (g : Nat) : LV := .raw (.pointer (some ⟨g, 0, none⟩))
theorem at_lt {α : Type} {l : List α} {i : Nat} (h : i < l.length) : ∃ x, l[i]? = some x := ⟨_, List.getElem?_eq_getElem h⟩
theorem take_snoc {α : Type} {l : List α} {i : Nat} {x : α} (h : l[i]? = some x) : l.take (i + 1) = l.take i ++ [x] := by
  obtain ⟨h1, h2⟩ := List.getElem?_eq_some_iff.1 h
  rw [List.take_succ_eq_append_getElem h1, h2]
theorem vxty : VxTy Tryd.prog 35 := ⟨⟨_, _, _, 5, Tryd.underlying35, rfl, Tryd.stoodInHeld35, by kernel_rfl, rfl, rfl, rfl, rfl, Tryd.underlying31, Tryd.underlying5, Tryd.sizeOf5, Tryd.sizeOf31, Tryd.isAgg31, Tryd.underlying3, Tryd.isAgg3⟩⟩
abbrev vxs (l : List Vx) : List (List LV) := l.map vxL
abbrev Vxs (l : List Vx) (k : Cap) : LV := .sl 33 (vxs l) k
abbrev hss (l : List Hs) : List (List LV) := l.map hsL
theorem vxs_size (l : List Vx) : ∀ e ∈ vxs l, e.length = 33 := fun e he => by obtain ⟨x, _, rfl⟩ := List.mem_map.1 he; exact vxL_len x
theorem vxs_at {l : List Vx} {i : Nat} {x : Vx} (h : l[i]? = some x) : (vxs l)[(i : Int).toNat]? = some (vxL x) := by
  rw [Int.toNat_natCast, List.getElem?_map, h]; rfl
theorem vx_ne (x : Vx) : vxL x ≠ [] := fun c => by have := vxL_len x; rw [c] at this; cases this
theorem vxs_app (a b : List Vx) : vxs a ++ vxs b = vxs (a ++ b) := (List.map_append (f := vxL) (l₁ := a) (l₂ := b)).symm
theorem hsL_len (x : Hs) : (hsL x).length = 32 := by rw [List.length_map]; exact x.2
theorem hss_size (l : List Hs) : ∀ e ∈ hss l, e.length = 32 := fun e he => by obtain ⟨x, _, rfl⟩ := List.mem_map.1 he; exact hsL_len x
theorem hss_at {l : List Hs} {i : Nat} {x : Hs} (h : l[i]? = some x) : (hss l)[(i : Int).toNat]? = some (hsL x) := by
  rw [Int.toNat_natCast, List.getElem?_map, h]; rfl
theorem hs_ne (x : Hs) : hsL x ≠ [] := fun c => by have := hsL_len x; rw [c] at this; cases this
theorem hss_app (a b : List Hs) : hss a ++ hss b = hss (a ++ b) := (List.map_append (f := hsL) (l₁ := a) (l₂ := b)).symm
abbrev hs0 : Hs := ⟨List.replicate 32 0, rfl⟩
abbrev topV : Vx := ⟨hs0, 0⟩
abbrev botV : Vx := ⟨hs0, 1⟩
abbrev kb : Atom := .known 0 (vxL botV)
def endsB (v : Vx) : Bool := decide (v = topV) || decide (v = botV)
section
variable {κ α : Type} [DecidableEq κ]
abbrev encM (enc : α → LV) (l : List (κ × α)) : List (κ × LV) := l.map fun p => (p.1, enc p.2)
def lookA : List (κ × α) → κ → Option α
  | [], _ => none
  | p :: r, a => if p.1 = a then some p.2 else lookA r a
def setA : List (κ × α) → κ → α → List (κ × α)
  | [], a, x => [(a, x)]
  | p :: r, a, x => if p.1 = a then (a, x) :: r else p :: setA r a x
def delA : List (κ × α) → κ → List (κ × α)
  | [], _ => []
  | p :: r, a => if p.1 = a then r else p :: delA r a
theorem lookM_cons (p : κ × LV) (r : List (κ × LV)) (b : κ) : lookM (p :: r) b = if p.1 = b then some p.2 else lookM r b := by
  unfold lookM
  rw [idxM]
  by_cases c : p.1 = b
  · rw [if_pos c, if_pos c]; rfl
  · rw [if_neg c, if_neg c]
    cases idxM r b with
    | none => rfl
    | some i => rfl
theorem setM_cons (p : κ × LV) (r : List (κ × LV)) (a : κ) (v : LV) : setM (p :: r) a v = if p.1 = a then (a, v) :: r else p :: setM r a v := by
  unfold setM
  rw [idxM]
  by_cases c : p.1 = a
  · rw [if_pos c, if_pos c]; rfl
  · rw [if_neg c, if_neg c]
    cases idxM r a with
    | none => rfl
    | some i => rfl
theorem delM_cons (p : κ × LV) (r : List (κ × LV)) (a : κ) : delM (p :: r) a = if p.1 = a then r else p :: delM r a := by
  unfold delM
  rw [idxM]
  by_cases c : p.1 = a
  · rw [if_pos c, if_pos c]; rfl
  · rw [if_neg c, if_neg c]
    cases idxM r a with
    | none => rfl
    | some i => rfl
theorem look_enc (enc : α → LV) : ∀ (l : List (κ × α)) (a : κ), lookM (encM enc l) a = (lookA l a).map enc
  | [], a => rfl
  | p :: r, a => by
    rw [show encM enc (p :: r) = (p.1, enc p.2) :: encM enc r from rfl, lookM_cons, lookA]
    by_cases c : p.1 = a
    · rw [if_pos c, if_pos c]; rfl
    · rw [if_neg c, if_neg c, look_enc enc r a]
theorem set_enc (enc : α → LV) : ∀ (l : List (κ × α)) (a : κ) (x : α), setM (encM enc l) a (enc x) = encM enc (setA l a x)
  | [], a, x => rfl
  | p :: r, a, x => by
    rw [show encM enc (p :: r) = (p.1, enc p.2) :: encM enc r from rfl, setM_cons, setA]
    by_cases c : p.1 = a
    · rw [if_pos c, if_pos c]; rfl
    · rw [if_neg c, if_neg c, set_enc enc r a x]; rfl
theorem del_enc (enc : α → LV) : ∀ (l : List (κ × α)) (a : κ), delM (encM enc l) a = encM enc (delA l a)
  | [], a => rfl
  | p :: r, a => by
    rw [show encM enc (p :: r) = (p.1, enc p.2) :: encM enc r from rfl, delM_cons, delA]
    by_cases c : p.1 = a
    · rw [if_pos c, if_pos c]
    · rw [if_neg c, if_neg c, del_enc enc r a]; rfl
theorem look_setA : ∀ (l : List (κ × α)) (a b : κ) (x : α), lookA (setA l a x) b = if a = b then some x else lookA l b
  | [], a, b, x => rfl
  | p :: r, a, b, x => by
    rw [setA]
    by_cases c : p.1 = a
    · rw [if_pos c, lookA, lookA]
      by_cases d : a = b
      · rw [if_pos d, if_pos d]
      · rw [if_neg d, if_neg d, if_neg (by rw [c]; exact d)]
    · rw [if_neg c, lookA, lookA, look_setA r a b x]
      by_cases d : p.1 = b
      · rw [if_pos d, if_pos d, if_neg (fun e => c (by rw [d, e]))]
      · rw [if_neg d, if_neg d]
end
set_option maxRecDepth 100000 in
theorem ends_calls (v : Vx) : LCalls Tryd.prog 53 [.agg (vxL v)] [kb] (fun r H' => r = bl (endsB v) ∧ H' = [kb]) := by
  have hvl := vxL_len v
  have hbl := vxL_len botV
  refine LCalls.of Tryd.func53 rfl Tryd.ntmps53 Tryd.results53 rfl (fun Rf => ?_)
  refine LW.seq ?_
  refine LW.region ?_
  refine X.act (X.box rfl Is.rfl' (by exact Cells.agg) (fun b1 => ?_))
  refine X.u (LU.assignR Is.rfl') rfl ?_
  refine LL.nil (after_code ?_)
  refine LW.seq ?_
  refine LW.region ?_
  refine X.u (LU.loadO 0 rfl ⟨Tryd.sizeOf35, Tryd.isAgg35⟩ Is.rfl' (Part.whole (by assumption))) rfl ?_
  refine X.u (LU.weak (LU.build (places := #[(0, 32), (32, 1)]) Tryd.underlying35 Tryd.zeroValue35 (ones rfl) (by intro w; simp [Tryd.sizeOf3, Tryd.sizeOf31]) Parts.nil rfl) (Is.of (y := .agg (vxL topV)) (rfl))) rfl ?_
  refine X.u (LU.eqlVx vxty Is.rfl' Is.rfl') rfl ?_
  refine X.u (LU.moveR Is.rfl') rfl ?_
  refine X.gF rfl rfl (fun hg => LU.loadO 0 rfl ⟨Tryd.sizeOf35, Tryd.isAgg35⟩ (by exact Is.rfl') (Part.whole (by assumption))) rfl ?_
  refine X.gF rfl rfl (fun hg => LU.loadK 1 rfl ⟨Tryd.sizeOf35, Tryd.isAgg35⟩ (by exact Is.rfl') (by decide) (by decide) (Part.whole (by (simp; done)))) rfl ?_
  refine X.gF rfl rfl (fun hg => LU.eqlVx vxty (by exact Is.whenN hg) (by exact Is.whenN hg)) rfl ?_
  refine X.u (LU.pickOr Is.rfl' Is.rfl' (fun hq => (by exact Is.whenN hq))) rfl ?_
  refine X.u (LU.assignR Is.rfl') rfl ?_
  refine LL.nil (after_code ?_)
  refine LW.ret (after_end ?_)
  refine X.ret (H' := [kb]) (Res.one (by exact IsR rfl)) (by repeat (first | exact HSub.refl _ | refine HSub.pick 1 rfl ?_ | refine HSub.drop ?_)) ?_
  exact ⟨by unfold endsB; rfl, rfl⟩
end Go.Proofs.YtolpkeajokjbjaaDoor
namespace Go.Proofs.YtolpkeajokjbjaaDoor
open Go.RowKit Go.L
attribute [local irreducible] LL LW LO
section
variable {α : Type} [DecidableEq α]
/-- The first place of a value in a list, -1 if there is none. -/
def placeG : List α → α → Int
  | [], _ => -1
  | a :: l, h => if a = h then 0 else (if placeG l h < 0 then -1 else placeG l h + 1)
theorem placeG_none : ∀ {l : List α} {h : α}, h ∉ l → placeG l h = -1
  | [], h, _ => rfl
  | a :: l, h, hn => by
    rw [placeG, if_neg (fun e => hn (by rw [e]; simp)), placeG_none (fun e => hn (List.mem_cons_of_mem _ e)), if_pos (by decide)]
theorem placeG_at : ∀ {l : List α} {h : α} {i : Nat}, l[i]? = some h → (∀ j, j < i → ∀ y, l[j]? = some y → y ≠ h) → placeG l h = i
  | [], h, i, e, _ => by simp at e
  | a :: l, h, 0, e, _ => by rw [placeG, if_pos (Option.some.inj e)]; rfl
  | a :: l, h, i + 1, e, hf => by
    have := placeG_at (l := l) (i := i) (by simpa using e) (fun j hj y hy => hf (j + 1) (by omega) y (by simpa using hy))
    rw [placeG, if_neg (hf 0 (by omega) a rfl), this, if_neg (by omega)]
    omega
theorem placeG_range : ∀ (l : List α) (h : α), -1 ≤ placeG l h ∧ placeG l h < l.length
  | [], h => by simp [placeG]
  | a :: l, h => by
    have := placeG_range l h
    rw [placeG, List.length_cons]
    split
    · omega
    · split <;> omega
theorem placeG_neg {l : List α} {h : α} : placeG l h < 0 ↔ h ∉ l := by
  constructor
  · intro hp hm
    induction l with
    | nil => cases hm
    | cons a l ih =>
      rw [placeG] at hp
      by_cases c : a = h
      · rw [if_pos c] at hp; cases hp
      · rw [if_neg c] at hp
        rcases List.mem_cons.1 hm with e | e
        · exact c e.symm
        · by_cases d : placeG l h < 0
          · exact ih d e
          · rw [if_neg d] at hp
            have := placeG_range l h
            omega
  · intro hn; rw [placeG_none hn]; decide
theorem placeG_in {l : List α} {h : α} [Decidable (h ∈ l)] : decide (0 ≤ placeG l h) = decide (h ∈ l) := by
  rw [Bool.eq_iff_iff]
  simp only [decide_eq_true_eq]
  have := placeG_neg (l := l) (h := h)
  refine ⟨fun c => Classical.not_not.1 fun d => ?_, fun c => ?_⟩
  · have := this.2 d; omega
  · have : ¬ placeG l h < 0 := fun d => this.1 d c
    omega
end
set_option maxRecDepth 100000 in
theorem index_calls (l : List Vx) (k : Cap) (v : Vx) (hl : l.length < 9223372036854775807) : LCalls Tryd.prog 56 [Vxs l k, .agg (vxL v)] [] (fun r H' => r = i64 (placeG l v) ∧ H' = []) := by
  have hvl := vxL_len v
  refine LCalls.of Tryd.func56 rfl Tryd.ntmps56 Tryd.results56 rfl (fun Rf => ?_)
  refine LW.seq ?_
  refine LW.region ?_
  refine X.act (X.box rfl Is.rfl' (by exact Cells.agg) (fun b3 => ?_))
  refine X.u (LU.assignR Is.rfl') rfl ?_
  refine LL.nil (after_code ?_)
  refine LW.seq ?_
  refine LW.seq ?_
  refine LW.region ?_
  refine X.u (LU.moveS Is.rfl') rfl ?_
  refine X.u (LU.lenN Tryd.underlying26 Is.rfl' (by (simp only [Option.getD_some, Option.getD_none, byteEls_length, intEls_length, List.length_append, List.length_cons, List.length_nil, List.length_map, List.length_drop, List.length_take, Int.toNat_natCast]; rfl))) rfl ?_
  refine X.u (LU.moveR Is.rfl') rfl ?_
  refine LL.nil (after_code ?_)
  refine LW.block ?_
  refine X.loopK (α := Nat) (fun i => [(8, i64 i)]) [0, 3, 7] (fun i => .cells b3 35 (vxL v) :: Rf) (fun i => i ≤ l.length ∧ ∀ j, j < i → ∀ y, l[j]? = some y → y ≠ v) (fun i => l.length - i) (0) (EnvLe.cons (by rfl) (EnvLe.nil)) (by repeat (exact HSub.refl _)) ?_ ?_
  · exact ⟨Nat.zero_le _, fun j hj => by omega⟩
  · rintro i hI
    obtain ⟨hi, hf⟩ := hI
    refine LW.seq ?_
    refine LW.region ?_
    refine X.u (LU.lss Is.rfl' Is.rfl') rfl ?_
    refine LL.nil (after_code ?_)
    refine LW.seq ?_
    refine X.cond rfl (fun h2 => ?_) (fun h2 => ?_)
    · try have h2 := of_decide_eq_true h2
      refine LW.skip (after_code ?_)
      refine LW.seq ?_
      refine LW.block ?_
      refine LW.seq ?_
      refine LW.region ?_
      refine X.u (LU.moveR Is.rfl') rfl ?_
      refine X.u (LU.assignR Is.rfl') rfl ?_
      refine LL.nil (after_code ?_)
      refine LW.seq ?_
      obtain ⟨x, hx⟩ := at_lt (show i < l.length by omega)
      have hxl := vxL_len x
      refine X.drawM 6 rfl (by kernel_rfl) rfl ?_
      refine QD.u (LU.loadO 0 rfl ⟨Tryd.sizeOf35, Tryd.isAgg35⟩ Is.rfl' (Part.whole (by assumption))) rfl ?_
      refine QD.u (LU.moveS Is.rfl') rfl ?_
      refine QD.u (LU.moveR Is.rfl') rfl ?_
      refine QD.u (LU.at Tryd.underlying26 ⟨Tryd.sizeOf35, Tryd.isAgg35⟩ Is.rfl' Is.rfl' (by omega) (vxs_at hx) (vx_ne x)) rfl ?_
      refine QD.u (LU.load ⟨Tryd.sizeOf35, Tryd.isAgg35⟩ Is.rfl' (by assumption) (Part.whole (by assumption))) rfl ?_
      refine QD.u (LU.eqlVx vxty Is.rfl' Is.rfl') rfl ?_
      refine QD.nil ?_
      refine LL.nil (after_code ?_)
      refine X.cond rfl (fun h4 => ?_) (fun h4 => ?_)
      · have hne : v = x := by simpa using h4
        refine LW.seq ?_
        refine LW.region ?_
        refine X.u (LU.moveR Is.rfl') rfl ?_
        refine X.u (LU.assignR Is.rfl') rfl ?_
        refine LL.nil (after_code ?_)
        refine LW.ret (ret_blk (ret_code (ret_rnd (ret_blk (ret_code (after_end ?_))))))
        refine X.ret (H' := []) (Res.one (by exact IsR rfl)) (by repeat (first | exact HSub.refl _ | refine HSub.drop ?_)) ?_
        exact ⟨by rw [placeG_at (by rw [hne]; exact hx) hf], rfl⟩
      · have hne : v ≠ x := by simpa using h4
        refine LW.skip (after_blk (after_code ?_))
        refine LW.region ?_
        refine X.u (LU.addN Is.rfl' Is.rfl' (wrap_i64 (by omega) (by omega))) rfl ?_
        refine X.u (LU.moveR Is.rfl') rfl ?_
        refine LL.nil (after_rnd ?_)
        refine X.next (i + 1) rfl (EnvLe.cons (by rfl) (EnvLe.nil)) (Keeps.cons (by exact Eq.trans (b := .sl _ _ _) rfl rfl) (Keeps.cons (by exact Eq.trans (b := .raw _) rfl rfl) (Keeps.cons (by exact Eq.trans (b := .raw _) rfl rfl) (Keeps.nil)))) (by repeat (exact HSub.refl _)) ?_ ?_
        · refine ⟨by omega, fun j hj y hy => ?_⟩
          by_cases c : j = i
          · rw [c, hx] at hy; rw [← Option.some.inj hy]; exact fun e => hne e.symm
          · exact hf j (by omega) y hy
        · omega
    · try have h2 := of_decide_eq_false h2
      refine LW.exit (exit_code (exit_rnd (exit_blk (after_code ?_))))
      refine LW.seq ?_
      refine LW.region ?_
      refine X.u (LU.assignR Is.rfl') rfl ?_
      refine LL.nil (after_code ?_)
      refine LW.ret (after_end ?_)
      refine X.ret (H' := []) (Res.one (by exact IsR rfl)) (by repeat (first | exact HSub.refl _ | refine HSub.drop ?_)) ?_
      exact ⟨by rw [placeG_none (fun hm => by obtain ⟨j, hj, e⟩ := List.getElem_of_mem hm; exact hf j (by omega) v (by rw [List.getElem?_eq_getElem hj, e]) rfl)], rfl⟩
set_option maxRecDepth 100000 in
theorem contains_calls (l : List Vx) (k : Cap) (v : Vx) (hl : l.length < 9223372036854775807) : LCalls Tryd.prog 40 [Vxs l k, .agg (vxL v)] [] (fun r H' => r = bl (decide (v ∈ l)) ∧ H' = []) := by
  have hvl := vxL_len v
  refine LCalls.of Tryd.func40 rfl Tryd.ntmps40 Tryd.results40 rfl (fun Rf => ?_)
  refine LW.seq ?_
  refine LW.region ?_
  refine X.act (X.box rfl Is.rfl' (by exact Cells.agg) (fun b3 => ?_))
  refine X.u (LU.assignR Is.rfl') rfl ?_
  refine LL.nil (after_code ?_)
  refine LW.seq ?_
  refine LW.region ?_
  refine X.u (LU.moveS Is.rfl') rfl ?_
  refine X.u (LU.loadO 0 rfl ⟨Tryd.sizeOf35, Tryd.isAgg35⟩ Is.rfl' (Part.whole (by assumption))) rfl ?_
  refine X.u (LU.call (index_calls l k v hl) Tryd.func56 rfl rfl (Opds.cons Is.rfl' (Opds.cons Is.rfl' Opds.nil))) rfl ?_
  refine X.u (LU.geq Is.rfl' Is.rfl') rfl ?_
  refine X.u (LU.assignR Is.rfl') rfl ?_
  refine LL.nil (after_code ?_)
  refine LW.ret (after_end ?_)
  refine X.ret (H' := []) (Res.one (by exact IsR rfl)) (by repeat (first | exact HSub.refl _ | refine HSub.drop ?_)) ?_
  exact ⟨by rw [← placeG_in], rfl⟩
set_option maxRecDepth 100000 in
theorem clone_calls (l : List Vx) (k : Cap) (hl : l.length < 1000000) : LCalls Tryd.prog 36 [Vxs l k] [] (fun r H' => ∃ b o c, r = Vxs l (.tok b o c) ∧ H' = [.tail b o c]) := by
  have hls := vxs_size l
  refine LCalls.of Tryd.func36 rfl Tryd.ntmps36 Tryd.results36 rfl (fun Rf => ?_)
  refine LW.seq ?_
  refine LW.region ?_
  refine X.u (LU.assign (Is.nil 33)) rfl ?_
  refine LL.nil (after_code ?_)
  refine LW.seq ?_
  refine LW.seq ?_
  refine LW.region ?_
  refine X.u (LU.moveS Is.rfl') rfl ?_
  refine X.act (LO.nilSl (st := ⟨_, _, _⟩) rfl Tryd.underlying26 Is.rfl' Is.rfl' (fun bb hbb => ?_))
  refine LL.nil (after_code ?_)
  refine X.cond rfl (fun h1 => ?_) (fun h1 => ?_)
  · try have h1 := of_decide_eq_true h1
    refine LW.seq ?_
    refine LW.region ?_
    refine X.u (LU.assign (Is.nil 33)) rfl ?_
    refine LL.nil (after_code ?_)
    refine LW.ret (ret_code (after_end ?_))
    refine X.ret (H' := [.tail 0 0 0]) (Res.one (Is.full_tok 0 0)) (HSub.tail0 0 0 0 (Nat.le_refl _) _) ?_
    exact ⟨0, 0, 0, by rw [List.map_eq_nil_iff.1 (hbb h1)]; rfl, rfl⟩
  · try have h1 := of_decide_eq_false h1
    refine LW.skip (after_code ?_)
    refine LW.seq ?_
    refine LW.region ?_
    refine X.u (LU.lits Tryd.underlying26 Tryd.sizeOf35 Tryd.zeroValue35 (ones rfl) rfl (by decide) (by decide) Elems.nil (by intro e he; cases he) rfl) rfl ?_
    refine X.u (LU.moveS Is.rfl') rfl ?_
    refine X.act (X.appendF rfl Tryd.underlying26 (El.of (P := Tryd.prog) (z := (.agg #[(.int .u8 0), (.int .u8 0), (.int .u8 0), (.int .u8 0), (.int .u8 0), (.int .u8 0), (.int .u8 0), (.int .u8 0), (.int .u8 0), (.int .u8 0), (.int .u8 0), (.int .u8 0), (.int .u8 0), (.int .u8 0), (.int .u8 0), (.int .u8 0), (.int .u8 0), (.int .u8 0), (.int .u8 0), (.int .u8 0), (.int .u8 0), (.int .u8 0), (.int .u8 0), (.int .u8 0), (.int .u8 0), (.int .u8 0), (.int .u8 0), (.int .u8 0), (.int .u8 0), (.int .u8 0), (.int .u8 0), (.int .u8 0), (.int .i64 0)])) (size := 33) (bytes := 40) rfl rfl rfl) Is.rfl' Is.rfl' (SrcL.slice Tryd.underlying26 (by decide) hls) (by simp only [Option.getD_some, Option.getD_none, byteEls_length, intEls_length, List.length_append, List.length_cons, List.length_nil, List.length_map, List.length_drop, List.length_take, Int.toNat_natCast]; omega) (by simp only [Option.getD_some, Option.getD_none, byteEls_length, intEls_length, List.length_append, List.length_cons, List.length_nil, List.length_map, List.length_drop, List.length_take, Int.toNat_natCast]; omega) (fun b7 o7 c7 => ?_))
    refine X.weak (t := 7) (v := Vxs l (.tok b7 o7 c7)) (Is.of (rfl)) ?_
    refine X.u (LU.assignS Is.rfl') rfl ?_
    refine LL.nil (after_code ?_)
    refine LW.ret (after_end ?_)
    refine X.ret (H' := [.tail b7 o7 c7]) (Res.one Is.rfl') (by repeat (exact HSub.refl _)) ?_
    exact ⟨b7, o7, c7, rfl, rfl⟩
set_option maxRecDepth 100000 in
theorem indexH_calls (l : List Hs) (k : Cap) (v : Hs) (hl : l.length < 9223372036854775807) : LCalls Tryd.prog 42 [.sl 32 (hss l) k, .agg (hsL v)] [] (fun r H' => r = i64 (placeG l v) ∧ H' = []) := by
  have hvl := hsL_len v
  refine LCalls.of Tryd.func42 rfl Tryd.ntmps42 Tryd.results42 rfl (fun Rf => ?_)
  refine LW.seq ?_
  refine LW.region ?_
  refine X.act (X.box rfl Is.rfl' (by exact Cells.agg) (fun b3 => ?_))
  refine X.u (LU.assignR Is.rfl') rfl ?_
  refine LL.nil (after_code ?_)
  refine LW.seq ?_
  refine LW.seq ?_
  refine LW.region ?_
  refine X.u (LU.moveS Is.rfl') rfl ?_
  refine X.u (LU.lenN Tryd.underlying71 Is.rfl' (by (simp only [Option.getD_some, Option.getD_none, byteEls_length, intEls_length, List.length_append, List.length_cons, List.length_nil, List.length_map, List.length_drop, List.length_take, Int.toNat_natCast]; rfl))) rfl ?_
  refine X.u (LU.moveR Is.rfl') rfl ?_
  refine LL.nil (after_code ?_)
  refine LW.block ?_
  refine X.loopK (α := Nat) (fun i => [(8, i64 i)]) [0, 3, 7] (fun i => .cells b3 31 (hsL v) :: Rf) (fun i => i ≤ l.length ∧ ∀ j, j < i → ∀ y, l[j]? = some y → y ≠ v) (fun i => l.length - i) (0) (EnvLe.cons (by rfl) (EnvLe.nil)) (by repeat (exact HSub.refl _)) ?_ ?_
  · exact ⟨Nat.zero_le _, fun j hj => by omega⟩
  · rintro i hI
    obtain ⟨hi, hf⟩ := hI
    refine LW.seq ?_
    refine LW.region ?_
    refine X.u (LU.lss Is.rfl' Is.rfl') rfl ?_
    refine LL.nil (after_code ?_)
    refine LW.seq ?_
    refine X.cond rfl (fun h2 => ?_) (fun h2 => ?_)
    · try have h2 := of_decide_eq_true h2
      refine LW.skip (after_code ?_)
      refine LW.seq ?_
      refine LW.block ?_
      refine LW.seq ?_
      refine LW.region ?_
      refine X.u (LU.moveR Is.rfl') rfl ?_
      refine X.u (LU.assignR Is.rfl') rfl ?_
      refine LL.nil (after_code ?_)
      refine LW.seq ?_
      obtain ⟨x, hx⟩ := at_lt (show i < l.length by omega)
      have hxl := hsL_len x
      refine X.drawM 6 rfl (by kernel_rfl) rfl ?_
      refine QD.u (LU.loadO 0 rfl ⟨Tryd.sizeOf31, Tryd.isAgg31⟩ Is.rfl' (Part.whole (by assumption))) rfl ?_
      refine QD.u (LU.moveS Is.rfl') rfl ?_
      refine QD.u (LU.moveR Is.rfl') rfl ?_
      refine QD.u (LU.at Tryd.underlying71 ⟨Tryd.sizeOf31, Tryd.isAgg31⟩ Is.rfl' Is.rfl' (by omega) (hss_at hx) (hs_ne x)) rfl ?_
      refine QD.u (LU.load ⟨Tryd.sizeOf31, Tryd.isAgg31⟩ Is.rfl' (by assumption) (Part.whole (by assumption))) rfl ?_
      refine QD.u (LU.eqlHs Tryd.underlying31 Tryd.underlying5 Tryd.sizeOf5 (by kernel_rfl) Is.rfl' Is.rfl') rfl ?_
      refine QD.nil ?_
      refine LL.nil (after_code ?_)
      refine X.cond rfl (fun h4 => ?_) (fun h4 => ?_)
      · have hne : v = x := by simpa using h4
        refine LW.seq ?_
        refine LW.region ?_
        refine X.u (LU.moveR Is.rfl') rfl ?_
        refine X.u (LU.assignR Is.rfl') rfl ?_
        refine LL.nil (after_code ?_)
        refine LW.ret (ret_blk (ret_code (ret_rnd (ret_blk (ret_code (after_end ?_))))))
        refine X.ret (H' := []) (Res.one (by exact IsR rfl)) (by repeat (first | exact HSub.refl _ | refine HSub.drop ?_)) ?_
        exact ⟨by rw [placeG_at (by rw [hne]; exact hx) hf], rfl⟩
      · have hne : v ≠ x := by simpa using h4
        refine LW.skip (after_blk (after_code ?_))
        refine LW.region ?_
        refine X.u (LU.addN Is.rfl' Is.rfl' (wrap_i64 (by omega) (by omega))) rfl ?_
        refine X.u (LU.moveR Is.rfl') rfl ?_
        refine LL.nil (after_rnd ?_)
        refine X.next (i + 1) rfl (EnvLe.cons (by rfl) (EnvLe.nil)) (Keeps.cons (by exact Eq.trans (b := .sl _ _ _) rfl rfl) (Keeps.cons (by exact Eq.trans (b := .raw _) rfl rfl) (Keeps.cons (by exact Eq.trans (b := .raw _) rfl rfl) (Keeps.nil)))) (by repeat (exact HSub.refl _)) ?_ ?_
        · refine ⟨by omega, fun j hj y hy => ?_⟩
          by_cases c : j = i
          · rw [c, hx] at hy; rw [← Option.some.inj hy]; exact fun e => hne e.symm
          · exact hf j (by omega) y hy
        · omega
    · try have h2 := of_decide_eq_false h2
      refine LW.exit (exit_code (exit_rnd (exit_blk (after_code ?_))))
      refine LW.seq ?_
      refine LW.region ?_
      refine X.u (LU.assignR Is.rfl') rfl ?_
      refine LL.nil (after_code ?_)
      refine LW.ret (after_end ?_)
      refine X.ret (H' := []) (Res.one (by exact IsR rfl)) (by repeat (first | exact HSub.refl _ | refine HSub.drop ?_)) ?_
      exact ⟨by rw [placeG_none (fun hm => by obtain ⟨j, hj, e⟩ := List.getElem_of_mem hm; exact hf j (by omega) v (by rw [List.getElem?_eq_getElem hj, e]) rfl)], rfl⟩
set_option maxRecDepth 100000 in
theorem containsH_calls (l : List Hs) (k : Cap) (v : Hs) (hl : l.length < 9223372036854775807) : LCalls Tryd.prog 31 [.sl 32 (hss l) k, .agg (hsL v)] [] (fun r H' => r = bl (decide (v ∈ l)) ∧ H' = []) := by
  have hvl := hsL_len v
  refine LCalls.of Tryd.func31 rfl Tryd.ntmps31 Tryd.results31 rfl (fun Rf => ?_)
  refine LW.seq ?_
  refine LW.region ?_
  refine X.act (X.box rfl Is.rfl' (by exact Cells.agg) (fun b3 => ?_))
  refine X.u (LU.assignR Is.rfl') rfl ?_
  refine LL.nil (after_code ?_)
  refine LW.seq ?_
  refine LW.region ?_
  refine X.u (LU.moveS Is.rfl') rfl ?_
  refine X.u (LU.loadO 0 rfl ⟨Tryd.sizeOf31, Tryd.isAgg31⟩ Is.rfl' (Part.whole (by assumption))) rfl ?_
  refine X.u (LU.call (indexH_calls l k v hl) Tryd.func42 rfl rfl (Opds.cons Is.rfl' (Opds.cons Is.rfl' Opds.nil))) rfl ?_
  refine X.u (LU.geq Is.rfl' Is.rfl') rfl ?_
  refine X.u (LU.assignR Is.rfl') rfl ?_
  refine LL.nil (after_code ?_)
  refine LW.ret (after_end ?_)
  refine X.ret (H' := []) (Res.one (by exact IsR rfl)) (by repeat (first | exact HSub.refl _ | refine HSub.drop ?_)) ?_
  exact ⟨by rw [← placeG_in], rfl⟩
set_option maxRecDepth 100000 in
theorem cloneH_calls (l : List Hs) (k : Cap) (hl : l.length < 1000000) : LCalls Tryd.prog 32 [.sl 32 (hss l) k] [] (fun r H' => ∃ b o c, r = .sl 32 (hss l) (.tok b o c) ∧ H' = [.tail b o c]) := by
  have hls := hss_size l
  refine LCalls.of Tryd.func32 rfl Tryd.ntmps32 Tryd.results32 rfl (fun Rf => ?_)
  refine LW.seq ?_
  refine LW.region ?_
  refine X.u (LU.assign (Is.nil 32)) rfl ?_
  refine LL.nil (after_code ?_)
  refine LW.seq ?_
  refine LW.seq ?_
  refine LW.region ?_
  refine X.u (LU.moveS Is.rfl') rfl ?_
  refine X.act (LO.nilSl (st := ⟨_, _, _⟩) rfl Tryd.underlying71 Is.rfl' Is.rfl' (fun bb hbb => ?_))
  refine LL.nil (after_code ?_)
  refine X.cond rfl (fun h1 => ?_) (fun h1 => ?_)
  · try have h1 := of_decide_eq_true h1
    refine LW.seq ?_
    refine LW.region ?_
    refine X.u (LU.assign (Is.nil 32)) rfl ?_
    refine LL.nil (after_code ?_)
    refine LW.ret (ret_code (after_end ?_))
    refine X.ret (H' := [.tail 0 0 0]) (Res.one (Is.full_tok 0 0)) (HSub.tail0 0 0 0 (Nat.le_refl _) _) ?_
    exact ⟨0, 0, 0, by rw [List.map_eq_nil_iff.1 (hbb h1)]; rfl, rfl⟩
  · try have h1 := of_decide_eq_false h1
    refine LW.skip (after_code ?_)
    refine LW.seq ?_
    refine LW.region ?_
    refine X.u (LU.lits Tryd.underlying71 Tryd.sizeOf31 Tryd.zeroValue31 (ones rfl) rfl (by decide) (by decide) Elems.nil (by intro e he; cases he) rfl) rfl ?_
    refine X.u (LU.moveS Is.rfl') rfl ?_
    refine X.act (X.appendF rfl Tryd.underlying71 (El.of (P := Tryd.prog) (z := (.agg #[(.int .u8 0), (.int .u8 0), (.int .u8 0), (.int .u8 0), (.int .u8 0), (.int .u8 0), (.int .u8 0), (.int .u8 0), (.int .u8 0), (.int .u8 0), (.int .u8 0), (.int .u8 0), (.int .u8 0), (.int .u8 0), (.int .u8 0), (.int .u8 0), (.int .u8 0), (.int .u8 0), (.int .u8 0), (.int .u8 0), (.int .u8 0), (.int .u8 0), (.int .u8 0), (.int .u8 0), (.int .u8 0), (.int .u8 0), (.int .u8 0), (.int .u8 0), (.int .u8 0), (.int .u8 0), (.int .u8 0), (.int .u8 0)])) (size := 32) (bytes := 32) rfl rfl rfl) Is.rfl' Is.rfl' (SrcL.slice Tryd.underlying71 (by decide) hls) (by simp only [Option.getD_some, Option.getD_none, byteEls_length, intEls_length, List.length_append, List.length_cons, List.length_nil, List.length_map, List.length_drop, List.length_take, Int.toNat_natCast]; omega) (by simp only [Option.getD_some, Option.getD_none, byteEls_length, intEls_length, List.length_append, List.length_cons, List.length_nil, List.length_map, List.length_drop, List.length_take, Int.toNat_natCast]; omega) (fun b7 o7 c7 => ?_))
    refine X.weak (t := 7) (v := .sl 32 (hss l) (.tok b7 o7 c7)) (Is.of (rfl)) ?_
    refine X.u (LU.assignS Is.rfl') rfl ?_
    refine LL.nil (after_code ?_)
    refine LW.ret (after_end ?_)
    refine X.ret (H' := [.tail b7 o7 c7]) (Res.one Is.rfl') (by repeat (exact HSub.refl _)) ?_
    exact ⟨b7, o7, c7, rfl, rfl⟩
end Go.Proofs.YtolpkeajokjbjaaDoor
namespace Go.Proofs.YtolpkeajokjbjaaDoor
open Go.RowKit Go.L
attribute [local irreducible] LL LW LO LP LA
/-- A line. -/
structure Ln where
  text : List UInt8
  kills : List Hs
  part : Int
  next : List Vx
  prev : List Vx
abbrev lnL (x : Ln) : List LV := [Str x.text, .sl 32 (hss x.kills) .unk, i64 x.part, Vxs x.next .unk, Vxs x.prev .unk]
abbrev lnE (x : Ln) : LV := .agg (lnL x)
abbrev ln0 : Ln := ⟨[], [], 0, [], []⟩
abbrev z73 : Value := .agg #[.string ⟨#[]⟩, .slice none 0 0, .int .i64 0, .slice none 0 0, .slice none 0 0]
theorem ln0_is : Is (.raw z73) (lnE ln0) := by
  have h := Is.raw_agg (vs := [.string ⟨#[]⟩, .slice none 0 0, .int .i64 0, .slice none 0 0, .slice none 0 0]) (fun v hv => by
    simp only [List.mem_cons, List.not_mem_nil, or_false] at hv
    rcases hv with rfl | rfl | rfl | rfl | rfl <;> rfl)
  refine h.trans (Is.agg rfl fun i x y hx hy => ?_)
  match i, hx, hy with
  | 0, hx, hy => cases hx; cases hy; exact Is.rfl'
  | 1, hx, hy => cases hx; cases hy; exact (Is.nil 32).trans Is.unk
  | 2, hx, hy => cases hx; cases hy; exact Is.rfl'
  | 3, hx, hy => cases hx; cases hy; exact (Is.nil 33).trans Is.unk
  | 4, hx, hy => cases hx; cases hy; exact (Is.nil 33).trans Is.unk
abbrev At := List (Vx × Ln)
def atG (m : At) (v : Vx) : Ln := (lookA m v).getD ln0
theorem at_is (m : At) (v : Vx) : Is ((lookM (encM lnE m) v).getD (.raw z73)) (lnE (atG m v)) := by
  rw [look_enc]
  unfold atG
  cases lookA m v with
  | none => exact ln0_is
  | some x => exact Is.rfl'
abbrev gC (g ma mb : Nat) (n : Int) : Atom := .cells g 68 [.raw (.map (some ma)), .raw (.map (some mb)), i64 n]
abbrev gA (ma : Nat) (m : At) : Atom := .map ma (mp vxV (encM lnE m))
set_option maxRecDepth 100000 in
theorem none_calls (g ma mb : Nat) (n : Int) : LCalls Tryd.prog 33 [pt g] [gC g ma mb n] (fun r H' => r = bl false ∧ H' = [gC g ma mb n]) := by
  refine LCalls.of Tryd.func33 rfl Tryd.ntmps33 Tryd.results33 rfl (fun Rf => ?_)
  refine LW.seq ?_
  refine LW.region ?_
  refine X.u (LU.assignR Is.rfl') rfl ?_
  refine LL.nil (after_code ?_)
  refine LW.seq ?_
  refine LW.region ?_
  refine X.u (LU.moveR Is.rfl') rfl ?_
  refine X.u (LU.nilEqS Tryd.underlying23 Is.rfl' Is.rfl') rfl ?_
  refine X.u (LU.moveR Is.rfl') rfl ?_
  refine X.doF rfl rfl (LU.moveR (by exact Is.rfl')) rfl ?_
  refine X.doF rfl rfl (LU.nilCheck (by exact Is.rfl')) rfl ?_
  refine X.doF rfl rfl (LU.fieldO Tryd.underlying68 rfl Tryd.sizeOf65 (by decide) (by exact Is.rfl')) rfl ?_
  refine X.doF rfl rfl (LU.loadO 0 rfl ⟨Tryd.sizeOf65, Tryd.isAgg65⟩ (by exact Is.rfl') (Part.one rfl)) rfl ?_
  refine X.doF rfl rfl (LU.nilMEqS Tryd.underlying65 (by exact Is.rfl') (by exact Is.rfl')) rfl ?_
  refine X.u (LU.pickF Is.rfl' (by exact Is.rfl')) rfl ?_
  refine X.u (LU.assignR Is.rfl') rfl ?_
  refine LL.nil (after_code ?_)
  refine LW.ret (after_end ?_)
  refine X.ret (H' := [gC g ma mb n]) (Res.one (by exact IsR rfl)) (by repeat (exact HSub.refl _)) ?_
  exact ⟨rfl, rfl⟩
theorem gA_set (ma : Nat) (m : At) (a : Vx) (x : Ln) : Atom.map ma (mp vxV (setM (encM lnE m) a (lnE x))) = gA ma (setA m a x) := by rw [set_enc]
def stepA (m : At) (a b : Vx) : At :=
  let m1 := setA m a { atG m a with next := (atG m a).next ++ [b] }
  setA m1 b { atG m1 b with prev := (atG m1 b).prev ++ [a] }
set_option maxHeartbeats 1000000 in
set_option maxRecDepth 100000 in
theorem step_calls (g ma mb : Nat) (n : Int) (m : At) (a b : Vx) (hn : ∀ v, (atG m v).next.length < 900000 ∧ (atG m v).prev.length < 900000) : LCalls Tryd.prog 29 [pt g, .agg (vxL a), .agg (vxL b)] [gC g ma mb n, gA ma m] (fun r H' => r = .tup [] ∧ H' = [gC g ma mb n, gA ma (stepA m a b)]) := by
  have hal := vxL_len a
  have hbl := vxL_len b
  have ha32 : a.p.1.length = 32 := a.p.2
  have hb32 : b.p.1.length = 32 := b.p.2
  obtain ⟨x, hx⟩ : ∃ x, x = atG m a := ⟨_, rfl⟩
  have hxn := (hn a).1
  rw [← hx] at hxn
  obtain ⟨m1, hm1⟩ : ∃ m1, m1 = setA m a { x with next := x.next ++ [b] } := ⟨_, rfl⟩
  obtain ⟨y, hy⟩ : ∃ y, y = atG m1 b := ⟨_, rfl⟩
  have hyn : y.prev.length < 900000 := by
    rw [hy, hm1]
    unfold atG
    rw [look_setA]
    by_cases c : a = b
    · rw [if_pos c]; show x.prev.length < _; rw [hx]; exact (hn a).2
    · rw [if_neg c]; exact (hn b).2
  have hst : stepA m a b = setA m1 b { y with prev := y.prev ++ [a] } := by
    unfold stepA
    rw [hy, hm1, hx]
  rw [hst]
  have hxi : Is ((lookM (encM lnE m) a).getD (.raw z73)) (lnE x) := by rw [hx]; exact at_is m a
  have hyi : Is ((lookM (encM lnE m1) b).getD (.raw z73)) (lnE y) := by rw [hy]; exact at_is m1 b
  refine LCalls.of Tryd.func29 rfl Tryd.ntmps29 Tryd.results29 rfl (fun Rf => ?_)
  refine LW.seq ?_
  refine LW.region ?_
  refine X.act (X.box rfl Is.rfl' (by exact Cells.agg) (fun b4 => ?_))
  refine X.act (X.box rfl Is.rfl' (by exact Cells.agg) (fun b5 => ?_))
  refine LL.nil (after_code ?_)
  refine LW.seq ?_
  refine LW.invM (m := 7) (γ := Nat × Nat) [(0, 8), (1, 9), (2, 10), (3, 11), (4, 12), (5, 13), (6, 6)] (fun g_ d => match g_ with | ⟨b_, z_⟩ => match d with | 8 => pt g | 9 => pt g | 10 => pt g | 11 => .raw (.map (some ma)) | 12 => .agg (vxL a) | 13 => lnE x | 6 => pt b_ | _ => .any) (fun g_ f => match g_ with | ⟨b_, z_⟩ => cond (f 6) (.cells b_ 73 (raws z73.cells.toList)) (.tail 0 0 0) :: .cells b4 35 (vxL a) :: .cells b5 35 (vxL b) :: gC g ma mb n :: gA ma m :: Rf) (0, 0) rfl (by kernel_rfl) rfl rfl ((HSub.trans (by repeat (first | exact HSub.refl _ | refine HSub.pick 1 rfl ?_)) (HSub.tail0 0 0 0 (Nat.le_refl _) _))) ?_ ?_
  · intro i hi f g_ hfi hdir hdown
    obtain ⟨b_, z_⟩ := g_
    have hc : i = 0 ∨ i = 1 ∨ i = 2 ∨ i = 3 ∨ i = 4 ∨ i = 5 ∨ i = 6 := by omega
    rcases hc with rfl | rfl | rfl | rfl | rfl | rfl | rfl
    · refine ⟨_, rfl, ?_⟩
      refine A.u (LU.moveR Is.rfl') rfl ?_
      refine ⟨⟨b_, z_⟩, Weaker.mk' ?_ (HSub.refl _)⟩
      refine env_back0 (envS_hit (sl := [(0, 8), (1, 9), (2, 10), (3, 11), (4, 12), (5, 13), (6, 6)]) (j := 0) (d := 8) rfl (fun _ _ h => h))  (envS_next ?_)
      · intro p hp hne; simp only [List.mem_cons, List.not_mem_nil, or_false] at hp; rcases hp with rfl | rfl | rfl | rfl | rfl | rfl | rfl <;> first | exact absurd rfl hne | exact ⟨rfl, rfl⟩
    · have d0 := hdir 0 (List.mem_of_elem_eq_true (by kernel_rfl))
      refine ⟨_, rfl, ?_⟩
      refine LP.weak (t := 8) (v := pt g) (envS_is (j := 0) rfl d0) ?_
      refine A.u (LU.nilCheck Is.rfl') rfl ?_
      refine ⟨⟨b_, z_⟩, Weaker.mk' ?_ (HSub.refl _)⟩
      refine env_back1 (envS_hit (sl := [(0, 8), (1, 9), (2, 10), (3, 11), (4, 12), (5, 13), (6, 6)]) (j := 1) (d := 9) rfl (fun _ _ h => h)) (envS_hit (sl := [(0, 8), (1, 9), (2, 10), (3, 11), (4, 12), (5, 13), (6, 6)]) (j := 0) (d := 8) rfl (fun _ _ h => h)) (envS_next ?_)
      · intro p hp hne; simp only [List.mem_cons, List.not_mem_nil, or_false] at hp; rcases hp with rfl | rfl | rfl | rfl | rfl | rfl | rfl <;> first | exact absurd rfl hne | exact ⟨rfl, rfl⟩
    · have d1 := hdir 1 (List.mem_of_elem_eq_true (by kernel_rfl))
      refine ⟨_, rfl, ?_⟩
      refine LP.weak (t := 9) (v := pt g) (envS_is (j := 1) rfl d1) ?_
      refine A.u (LU.fieldO Tryd.underlying68 rfl Tryd.sizeOf65 (by decide) Is.rfl') rfl ?_
      refine ⟨⟨b_, z_⟩, Weaker.mk' ?_ (HSub.refl _)⟩
      refine env_back1 (envS_hit (sl := [(0, 8), (1, 9), (2, 10), (3, 11), (4, 12), (5, 13), (6, 6)]) (j := 2) (d := 10) rfl (fun _ _ h => h)) (envS_hit (sl := [(0, 8), (1, 9), (2, 10), (3, 11), (4, 12), (5, 13), (6, 6)]) (j := 1) (d := 9) rfl (fun _ _ h => h)) (envS_next ?_)
      · intro p hp hne; simp only [List.mem_cons, List.not_mem_nil, or_false] at hp; rcases hp with rfl | rfl | rfl | rfl | rfl | rfl | rfl <;> first | exact absurd rfl hne | exact ⟨rfl, rfl⟩
    · have d2 := hdir 2 (List.mem_of_elem_eq_true (by kernel_rfl))
      refine ⟨_, rfl, ?_⟩
      refine LP.weak (t := 10) (v := pt g) (envS_is (j := 2) rfl d2) ?_
      refine A.u (LU.loadO 3 rfl ⟨Tryd.sizeOf65, Tryd.isAgg65⟩ Is.rfl' (Part.one rfl)) rfl ?_
      refine ⟨⟨b_, z_⟩, Weaker.mk' ?_ (HSub.refl _)⟩
      refine env_back1 (envS_hit (sl := [(0, 8), (1, 9), (2, 10), (3, 11), (4, 12), (5, 13), (6, 6)]) (j := 3) (d := 11) rfl (fun _ _ h => h)) (envS_hit (sl := [(0, 8), (1, 9), (2, 10), (3, 11), (4, 12), (5, 13), (6, 6)]) (j := 2) (d := 10) rfl (fun _ _ h => h)) (envS_next ?_)
      · intro p hp hne; simp only [List.mem_cons, List.not_mem_nil, or_false] at hp; rcases hp with rfl | rfl | rfl | rfl | rfl | rfl | rfl <;> first | exact absurd rfl hne | exact ⟨rfl, rfl⟩
    · refine ⟨_, rfl, ?_⟩
      refine A.u (LU.loadO 1 rfl ⟨Tryd.sizeOf35, Tryd.isAgg35⟩ Is.rfl' (Part.whole (by assumption))) rfl ?_
      refine ⟨⟨b_, z_⟩, Weaker.mk' ?_ (HSub.refl _)⟩
      refine env_back0 (envS_hit (sl := [(0, 8), (1, 9), (2, 10), (3, 11), (4, 12), (5, 13), (6, 6)]) (j := 4) (d := 12) rfl (fun _ _ h => h))  (envS_next ?_)
      · intro p hp hne; simp only [List.mem_cons, List.not_mem_nil, or_false] at hp; rcases hp with rfl | rfl | rfl | rfl | rfl | rfl | rfl <;> first | exact absurd rfl hne | exact ⟨rfl, rfl⟩
    · have d3 := hdir 3 (List.mem_of_elem_eq_true (by kernel_rfl))
      have d4 := hdir 4 (List.mem_of_elem_eq_true (by kernel_rfl))
      refine ⟨_, rfl, ?_⟩
      refine LP.weak (t := 11) (v := .raw (.map (some ma))) (envS_is (j := 3) rfl d3) ?_
      refine LP.weak (t := 12) (v := .agg (vxL a)) (envS_is (j := 4) rfl d4) ?_
      refine A.u (LU.weak (LU.lookup 4 (KeyOk.vx vxty) rfl Tryd.underlying65 Tryd.zeroValue73 Is.rfl' (by exact Is.vx _)) (hxi)) rfl ?_
      refine ⟨⟨b_, z_⟩, Weaker.mk' ?_ (HSub.refl _)⟩
      refine env_back2 (envS_hit (sl := [(0, 8), (1, 9), (2, 10), (3, 11), (4, 12), (5, 13), (6, 6)]) (j := 5) (d := 13) rfl (fun _ _ h => h)) (envS_hit (sl := [(0, 8), (1, 9), (2, 10), (3, 11), (4, 12), (5, 13), (6, 6)]) (j := 4) (d := 12) rfl (fun _ _ h => h)) (envS_hit (sl := [(0, 8), (1, 9), (2, 10), (3, 11), (4, 12), (5, 13), (6, 6)]) (j := 3) (d := 11) rfl (fun _ _ h => h)) (envS_next ?_)
      · intro p hp hne; simp only [List.mem_cons, List.not_mem_nil, or_false] at hp; rcases hp with rfl | rfl | rfl | rfl | rfl | rfl | rfl <;> first | exact absurd rfl hne | exact ⟨rfl, rfl⟩
    · refine ⟨_, rfl, ?_⟩
      refine A.act (X.alloc rfl Tryd.zeroValue73 (by exact Cells.rawagg (by decide)) (fun b6 => ?_))
      refine ⟨(b6, 0), Weaker.mk' ?_ (by show L.HSub (_ :: cond (f 6) _ (.tail 0 0 0) :: _) _; rw [hfi]; exact HSub.cons (HSub.drop (HSub.refl _)))⟩
      refine env_back0 (envS_hit (sl := [(0, 8), (1, 9), (2, 10), (3, 11), (4, 12), (5, 13), (6, 6)]) (j := 6) (d := 6) rfl (fun _ _ h => h))  (envS_next ?_)
      · intro p hp hne; simp only [List.mem_cons, List.not_mem_nil, or_false] at hp; rcases hp with rfl | rfl | rfl | rfl | rfl | rfl | rfl <;> first | exact absurd rfl hne | exact ⟨rfl, rfl⟩
  · intro g_ f hf_
    obtain ⟨b_, z_⟩ := g_
    refine X.ghost (H' := .cells b_ 73 (raws z73.cells.toList) :: .cells b4 35 (vxL a) :: .cells b5 35 (vxL b) :: gC g ma mb n :: gA ma m :: Rf) (by show L.HSub (cond (f 6) _ (.tail 0 0 0) :: _) _; rw [hf_ 6 (by omega)]; exact HSub.refl _) ?_
    refine X.act (X.store 0 rfl Tryd.sizeOf73 Is.rfl' Is.rfl' (by exact Cells.agg) (by (simp; done)) (by exact Nat.le_of_ble_eq_true rfl) ?_)
    refine LL.nil (after_code ?_)
    refine LW.seq ?_
    refine X.wcells (ys := lnL x) rfl ?_
    refine X.wghost (H' := .cells b_ 73 (lnL x) :: gC g ma mb n :: gA ma m :: .cells b4 35 (vxL a) :: .cells b5 35 (vxL b) :: Rf) (by repeat (first | exact HSub.refl _ | refine HSub.pick 0 rfl ?_ | refine HSub.pick 2 rfl ?_)) ?_
    refine LW.invM (m := 6) (γ := Nat × Nat × Nat × Nat × Nat × Nat) [(0, 14), (1, 15), (2, 16), (3, 17), (4, 18), (5, 19)] (fun g_ d => match g_ with | ⟨q1, q2, q3, q4, q5, q6⟩ => match d with | 14 => .raw (.pointer (some ⟨b_, 3, none⟩)) | 15 => Vxs x.next .unk | 16 => Vxs x.next (.tok q1 q2 q3) | 17 => .agg (vxL b) | 18 => .sl 33 [vxL b] .full | 19 => Vxs (x.next ++ [b]) (.tok q4 q5 q6) | _ => .any) (fun g_ f => match g_ with | ⟨q1, q2, q3, q4, q5, q6⟩ => cond (f 5) (.tail q4 q5 q6) (cond (f 2) (.tail q1 q2 q3) (.tail 0 0 0)) :: .cells b_ 73 (lnL x) :: gC g ma mb n :: gA ma m :: .cells b4 35 (vxL a) :: .cells b5 35 (vxL b) :: Rf) (0, 0, 0, 0, 0, 0) rfl (by kernel_rfl) rfl rfl ((HSub.trans (by repeat (exact HSub.refl _)) (HSub.tail0 0 0 0 (Nat.le_refl _) _))) ?_ ?_
    · intro i hi f g_ hfi hdir hdown
      obtain ⟨q1, q2, q3, q4, q5, q6⟩ := g_
      have hc : i = 0 ∨ i = 1 ∨ i = 2 ∨ i = 3 ∨ i = 4 ∨ i = 5 := by omega
      rcases hc with rfl | rfl | rfl | rfl | rfl | rfl
      · refine ⟨_, rfl, ?_⟩
        refine A.u (LU.fieldO Tryd.underlying73 rfl Tryd.sizeOf26 (by decide) Is.rfl') rfl ?_
        refine ⟨⟨q1, q2, q3, q4, q5, q6⟩, Weaker.mk' ?_ (HSub.refl _)⟩
        refine env_back0 (envS_hit (sl := [(0, 14), (1, 15), (2, 16), (3, 17), (4, 18), (5, 19)]) (j := 0) (d := 14) rfl (fun _ _ h => h))  (envS_next ?_)
        · intro p hp hne; simp only [List.mem_cons, List.not_mem_nil, or_false] at hp; rcases hp with rfl | rfl | rfl | rfl | rfl | rfl <;> first | exact absurd rfl hne | exact ⟨rfl, rfl⟩
      · have d0 := hdir 0 (List.mem_of_elem_eq_true (by kernel_rfl))
        refine ⟨_, rfl, ?_⟩
        refine LP.weak (t := 14) (v := .raw (.pointer (some ⟨b_, 3, none⟩))) (envS_is (j := 0) rfl d0) ?_
        refine A.u (LU.loadO 1 rfl ⟨Tryd.sizeOf26, Tryd.isAgg26⟩ Is.rfl' (Part.one rfl)) rfl ?_
        refine ⟨⟨q1, q2, q3, q4, q5, q6⟩, Weaker.mk' ?_ (HSub.refl _)⟩
        refine env_back1 (envS_hit (sl := [(0, 14), (1, 15), (2, 16), (3, 17), (4, 18), (5, 19)]) (j := 1) (d := 15) rfl (fun _ _ h => h)) (envS_hit (sl := [(0, 14), (1, 15), (2, 16), (3, 17), (4, 18), (5, 19)]) (j := 0) (d := 14) rfl (fun _ _ h => h)) (envS_next ?_)
        · intro p hp hne; simp only [List.mem_cons, List.not_mem_nil, or_false] at hp; rcases hp with rfl | rfl | rfl | rfl | rfl | rfl <;> first | exact absurd rfl hne | exact ⟨rfl, rfl⟩
      · have d1 := hdir 1 (List.mem_of_elem_eq_true (by kernel_rfl))
        refine ⟨_, rfl, ?_⟩
        have h6 : f 5 = false := Bool.eq_false_iff.2 (fun h => by rw [hdown 5 (by omega) h 2 (List.mem_of_elem_eq_true (by kernel_rfl))] at hfi; cases hfi)
        refine LP.ghost (H' := .cells b_ 73 (lnL x) :: gC g ma mb n :: gA ma m :: .cells b4 35 (vxL a) :: .cells b5 35 (vxL b) :: Rf) (by show L.HSub (cond (f 5) _ (cond (f 2) _ _) :: _) _; rw [h6, hfi]; exact HSub.drop (HSub.refl _)) ?_
        refine LP.weak (t := 15) (v := Vxs x.next .unk) (envS_is (j := 1) rfl d1) ?_
        refine A.act (X.call (clone_calls x.next .unk (by omega)) Tryd.func36 rfl rfl rfl (HSub.refl _) (Opds.cons Is.rfl' Opds.nil) ?_)
        rintro r H' ⟨b16, o16, c16, rfl, rfl⟩
        refine ⟨(b16, o16, c16, q4, q5, q6), Weaker.mk' ?_ (by show L.HSub _ (cond (f 5) _ (.tail b16 o16 c16) :: _); rw [h6]; exact HSub.refl _)⟩
        refine env_back1 (envS_hit (sl := [(0, 14), (1, 15), (2, 16), (3, 17), (4, 18), (5, 19)]) (j := 2) (d := 16) rfl (fun _ _ h => h)) (envS_hit (sl := [(0, 14), (1, 15), (2, 16), (3, 17), (4, 18), (5, 19)]) (j := 1) (d := 15) rfl (fun _ _ h => h)) (envS_next ?_)
        · intro p hp hne; simp only [List.mem_cons, List.not_mem_nil, or_false] at hp; rcases hp with rfl | rfl | rfl | rfl | rfl | rfl <;> first | exact absurd rfl hne | exact ⟨rfl, rfl⟩
      · refine ⟨_, rfl, ?_⟩
        refine A.u (LU.loadO 5 rfl ⟨Tryd.sizeOf35, Tryd.isAgg35⟩ Is.rfl' (Part.whole (by assumption))) rfl ?_
        refine ⟨⟨q1, q2, q3, q4, q5, q6⟩, Weaker.mk' ?_ (HSub.refl _)⟩
        refine env_back0 (envS_hit (sl := [(0, 14), (1, 15), (2, 16), (3, 17), (4, 18), (5, 19)]) (j := 3) (d := 17) rfl (fun _ _ h => h))  (envS_next ?_)
        · intro p hp hne; simp only [List.mem_cons, List.not_mem_nil, or_false] at hp; rcases hp with rfl | rfl | rfl | rfl | rfl | rfl <;> first | exact absurd rfl hne | exact ⟨rfl, rfl⟩
      · have d3 := hdir 3 (List.mem_of_elem_eq_true (by kernel_rfl))
        refine ⟨_, rfl, ?_⟩
        refine LP.weak (t := 17) (v := .agg (vxL b)) (envS_is (j := 3) rfl d3) ?_
        refine A.u (LU.lits Tryd.underlying26 Tryd.sizeOf35 Tryd.zeroValue35 (ones rfl) rfl (by decide) (by decide) (Elems.cons Is.rfl' (by exact Cells.agg) Elems.nil) (by (simp; assumption)) rfl) rfl ?_
        refine ⟨⟨q1, q2, q3, q4, q5, q6⟩, Weaker.mk' ?_ (HSub.refl _)⟩
        refine env_back1 (envS_hit (sl := [(0, 14), (1, 15), (2, 16), (3, 17), (4, 18), (5, 19)]) (j := 4) (d := 18) rfl (fun _ _ h => h)) (envS_hit (sl := [(0, 14), (1, 15), (2, 16), (3, 17), (4, 18), (5, 19)]) (j := 3) (d := 17) rfl (fun _ _ h => h)) (envS_next ?_)
        · intro p hp hne; simp only [List.mem_cons, List.not_mem_nil, or_false] at hp; rcases hp with rfl | rfl | rfl | rfl | rfl | rfl <;> first | exact absurd rfl hne | exact ⟨rfl, rfl⟩
      · have d2 := hdir 2 (List.mem_of_elem_eq_true (by kernel_rfl))
        have d4 := hdir 4 (List.mem_of_elem_eq_true (by kernel_rfl))
        refine ⟨_, rfl, ?_⟩
        have h2 : f 2 = true := hdir 2 (List.mem_of_elem_eq_true (by kernel_rfl))
        refine LP.ghost (H' := .tail q1 q2 q3 :: .cells b_ 73 (lnL x) :: gC g ma mb n :: gA ma m :: .cells b4 35 (vxL a) :: .cells b5 35 (vxL b) :: Rf) (by show L.HSub (cond (f 5) _ (cond (f 2) _ _) :: _) _; rw [h2, hfi]; exact HSub.refl _) ?_
        refine LP.weak (t := 16) (v := Vxs x.next (.tok q1 q2 q3)) (envS_is (j := 2) rfl d2) ?_
        refine LP.weak (t := 18) (v := .sl 33 [vxL b] .full) (envS_is (j := 4) rfl d4) ?_
        refine A.act (X.append 0 rfl rfl Tryd.underlying26 (El.of (P := Tryd.prog) (z := (.agg #[(.int .u8 0), (.int .u8 0), (.int .u8 0), (.int .u8 0), (.int .u8 0), (.int .u8 0), (.int .u8 0), (.int .u8 0), (.int .u8 0), (.int .u8 0), (.int .u8 0), (.int .u8 0), (.int .u8 0), (.int .u8 0), (.int .u8 0), (.int .u8 0), (.int .u8 0), (.int .u8 0), (.int .u8 0), (.int .u8 0), (.int .u8 0), (.int .u8 0), (.int .u8 0), (.int .u8 0), (.int .u8 0), (.int .u8 0), (.int .u8 0), (.int .u8 0), (.int .u8 0), (.int .u8 0), (.int .u8 0), (.int .u8 0), (.int .i64 0)])) (size := 33) (bytes := 40) rfl rfl rfl) Is.rfl' Is.rfl' (SrcL.slice Tryd.underlying26 (by decide) (by intro e he; rw [List.mem_singleton.1 he]; exact hbl)) (by simp only [Option.getD_some, Option.getD_none, byteEls_length, intEls_length, List.length_append, List.length_cons, List.length_nil, List.length_map, List.length_drop, List.length_take, Int.toNat_natCast]; omega) (by simp only [Option.getD_some, Option.getD_none, byteEls_length, intEls_length, List.length_append, List.length_cons, List.length_nil, List.length_map, List.length_drop, List.length_take, Int.toNat_natCast]; omega) (fun b19 o19 c19 => ?_))
        refine ⟨(q1, q2, q3, b19, o19, c19), Weaker.mk' ?_ (HSub.refl _)⟩
        refine env_back2 (envS_hit (sl := [(0, 14), (1, 15), (2, 16), (3, 17), (4, 18), (5, 19)]) (j := 5) (d := 19) rfl (Is.of (congrArg (fun z => LV.sl 33 z (.tok b19 o19 c19)) (vxs_app x.next [b])))) (envS_hit (sl := [(0, 14), (1, 15), (2, 16), (3, 17), (4, 18), (5, 19)]) (j := 4) (d := 18) rfl (fun _ _ h => h)) (envS_hit (sl := [(0, 14), (1, 15), (2, 16), (3, 17), (4, 18), (5, 19)]) (j := 2) (d := 16) rfl (fun _ _ h => h)) (envS_next ?_)
        · intro p hp hne; simp only [List.mem_cons, List.not_mem_nil, or_false] at hp; rcases hp with rfl | rfl | rfl | rfl | rfl | rfl <;> first | exact absurd rfl hne | exact ⟨rfl, rfl⟩
    · intro g_ f hf_
      obtain ⟨q1, q2, q3, q4, q5, q6⟩ := g_
      refine X.ghost (H' := .tail q4 q5 q6 :: .cells b_ 73 (lnL x) :: gC g ma mb n :: gA ma m :: .cells b4 35 (vxL a) :: .cells b5 35 (vxL b) :: Rf) (by show L.HSub (cond (f 5) _ _ :: _) _; rw [hf_ 5 (by omega)]; exact HSub.refl _) ?_
      refine X.u (LU.fieldO Tryd.underlying73 rfl Tryd.sizeOf26 (by decide) Is.rfl') rfl ?_
      refine X.act (X.store 1 rfl Tryd.sizeOf26 Is.rfl' Is.rfl' (by exact Cells.sl) (by (simp; done)) (by (simp; done)) ?_)
      refine LL.nil (after_code ?_)
      refine LW.seq ?_
      refine X.wcells (ys := [Str x.text, .sl 32 (hss x.kills) .unk, i64 x.part, Vxs (x.next ++ [b]) (.tok q4 q5 q6), Vxs x.prev .unk]) rfl ?_
      refine X.wghost (H' := .cells b_ 73 (lnL { x with next := x.next ++ [b] }) :: gC g ma mb n :: gA ma m :: .cells b4 35 (vxL a) :: .cells b5 35 (vxL b) :: Rf) (HSub.trans (B := .cells b_ 73 [Str x.text, .sl 32 (hss x.kills) .unk, i64 x.part, Vxs (x.next ++ [b]) (.tok q4 q5 q6), Vxs x.prev .unk] :: gC g ma mb n :: gA ma m :: .cells b4 35 (vxL a) :: .cells b5 35 (vxL b) :: Rf) (by repeat (first | exact HSub.refl _ | refine HSub.pick 0 rfl ?_ | refine HSub.pick 1 rfl ?_ | refine HSub.drop ?_)) (HSub.cell 3 rfl Is.unk)) ?_
      refine X.drawM 6 rfl (by kernel_rfl) rfl ?_
      refine QD.u (LU.moveR Is.rfl') rfl ?_
      refine QD.u (LU.nilCheck Is.rfl') rfl ?_
      refine QD.u (LU.fieldO Tryd.underlying68 rfl Tryd.sizeOf65 (by decide) Is.rfl') rfl ?_
      refine QD.u (LU.loadO 1 rfl ⟨Tryd.sizeOf65, Tryd.isAgg65⟩ Is.rfl' (Part.one rfl)) rfl ?_
      refine QD.u (LU.loadO 3 rfl ⟨Tryd.sizeOf35, Tryd.isAgg35⟩ Is.rfl' (Part.whole (by assumption))) rfl ?_
      refine QD.u (LU.loadO 0 rfl ⟨Tryd.sizeOf73, Tryd.isAgg73⟩ Is.rfl' (Part.whole (by (simp; done)))) rfl ?_
      refine QD.nil ?_
      refine X.act (LO.mapUpdate (st := ⟨_, _, _⟩) 2 (KeyOk.vx vxty) rfl Tryd.underlying65 Is.rfl' (by exact Is.vx _) Is.rfl' ?_)
      refine LL.nil (after_code ?_)
      refine LW.seq ?_
      refine X.wghost (H' := gC g ma mb n :: gA ma m1 :: .cells b4 35 (vxL a) :: .cells b5 35 (vxL b) :: Rf) (by rw [hm1, ← gA_set]; exact (by repeat (first | exact HSub.refl _ | refine HSub.pick 0 rfl ?_ | refine HSub.pick 1 rfl ?_ | refine HSub.pick 2 rfl ?_ | refine HSub.drop ?_))) ?_
      refine LW.invM (m := 7) (γ := Nat × Nat) [(0, 27), (1, 28), (2, 29), (3, 30), (4, 31), (5, 32), (6, 7)] (fun g_ d => match g_ with | ⟨c_, z_⟩ => match d with | 27 => pt g | 28 => pt g | 29 => pt g | 30 => .raw (.map (some ma)) | 31 => .agg (vxL b) | 32 => lnE y | 7 => pt c_ | _ => .any) (fun g_ f => match g_ with | ⟨c_, z_⟩ => cond (f 6) (.cells c_ 73 (raws z73.cells.toList)) (.tail 0 0 0) :: .cells b4 35 (vxL a) :: .cells b5 35 (vxL b) :: gC g ma mb n :: gA ma m1 :: Rf) (0, 0) rfl (by kernel_rfl) rfl rfl ((HSub.trans (by repeat (first | exact HSub.refl _ | refine HSub.pick 2 rfl ?_)) (HSub.tail0 0 0 0 (Nat.le_refl _) _))) ?_ ?_
      · intro i hi f g_ hfi hdir hdown
        obtain ⟨c_, z_⟩ := g_
        have hc : i = 0 ∨ i = 1 ∨ i = 2 ∨ i = 3 ∨ i = 4 ∨ i = 5 ∨ i = 6 := by omega
        rcases hc with rfl | rfl | rfl | rfl | rfl | rfl | rfl
        · refine ⟨_, rfl, ?_⟩
          refine A.u (LU.moveR Is.rfl') rfl ?_
          refine ⟨⟨c_, z_⟩, Weaker.mk' ?_ (HSub.refl _)⟩
          refine env_back0 (envS_hit (sl := [(0, 27), (1, 28), (2, 29), (3, 30), (4, 31), (5, 32), (6, 7)]) (j := 0) (d := 27) rfl (fun _ _ h => h))  (envS_next ?_)
          · intro p hp hne; simp only [List.mem_cons, List.not_mem_nil, or_false] at hp; rcases hp with rfl | rfl | rfl | rfl | rfl | rfl | rfl <;> first | exact absurd rfl hne | exact ⟨rfl, rfl⟩
        · have d0 := hdir 0 (List.mem_of_elem_eq_true (by kernel_rfl))
          refine ⟨_, rfl, ?_⟩
          refine LP.weak (t := 27) (v := pt g) (envS_is (j := 0) rfl d0) ?_
          refine A.u (LU.nilCheck Is.rfl') rfl ?_
          refine ⟨⟨c_, z_⟩, Weaker.mk' ?_ (HSub.refl _)⟩
          refine env_back1 (envS_hit (sl := [(0, 27), (1, 28), (2, 29), (3, 30), (4, 31), (5, 32), (6, 7)]) (j := 1) (d := 28) rfl (fun _ _ h => h)) (envS_hit (sl := [(0, 27), (1, 28), (2, 29), (3, 30), (4, 31), (5, 32), (6, 7)]) (j := 0) (d := 27) rfl (fun _ _ h => h)) (envS_next ?_)
          · intro p hp hne; simp only [List.mem_cons, List.not_mem_nil, or_false] at hp; rcases hp with rfl | rfl | rfl | rfl | rfl | rfl | rfl <;> first | exact absurd rfl hne | exact ⟨rfl, rfl⟩
        · have d1 := hdir 1 (List.mem_of_elem_eq_true (by kernel_rfl))
          refine ⟨_, rfl, ?_⟩
          refine LP.weak (t := 28) (v := pt g) (envS_is (j := 1) rfl d1) ?_
          refine A.u (LU.fieldO Tryd.underlying68 rfl Tryd.sizeOf65 (by decide) Is.rfl') rfl ?_
          refine ⟨⟨c_, z_⟩, Weaker.mk' ?_ (HSub.refl _)⟩
          refine env_back1 (envS_hit (sl := [(0, 27), (1, 28), (2, 29), (3, 30), (4, 31), (5, 32), (6, 7)]) (j := 2) (d := 29) rfl (fun _ _ h => h)) (envS_hit (sl := [(0, 27), (1, 28), (2, 29), (3, 30), (4, 31), (5, 32), (6, 7)]) (j := 1) (d := 28) rfl (fun _ _ h => h)) (envS_next ?_)
          · intro p hp hne; simp only [List.mem_cons, List.not_mem_nil, or_false] at hp; rcases hp with rfl | rfl | rfl | rfl | rfl | rfl | rfl <;> first | exact absurd rfl hne | exact ⟨rfl, rfl⟩
        · have d2 := hdir 2 (List.mem_of_elem_eq_true (by kernel_rfl))
          refine ⟨_, rfl, ?_⟩
          refine LP.weak (t := 29) (v := pt g) (envS_is (j := 2) rfl d2) ?_
          refine A.u (LU.loadO 3 rfl ⟨Tryd.sizeOf65, Tryd.isAgg65⟩ Is.rfl' (Part.one rfl)) rfl ?_
          refine ⟨⟨c_, z_⟩, Weaker.mk' ?_ (HSub.refl _)⟩
          refine env_back1 (envS_hit (sl := [(0, 27), (1, 28), (2, 29), (3, 30), (4, 31), (5, 32), (6, 7)]) (j := 3) (d := 30) rfl (fun _ _ h => h)) (envS_hit (sl := [(0, 27), (1, 28), (2, 29), (3, 30), (4, 31), (5, 32), (6, 7)]) (j := 2) (d := 29) rfl (fun _ _ h => h)) (envS_next ?_)
          · intro p hp hne; simp only [List.mem_cons, List.not_mem_nil, or_false] at hp; rcases hp with rfl | rfl | rfl | rfl | rfl | rfl | rfl <;> first | exact absurd rfl hne | exact ⟨rfl, rfl⟩
        · refine ⟨_, rfl, ?_⟩
          refine A.u (LU.loadO 2 rfl ⟨Tryd.sizeOf35, Tryd.isAgg35⟩ Is.rfl' (Part.whole (by assumption))) rfl ?_
          refine ⟨⟨c_, z_⟩, Weaker.mk' ?_ (HSub.refl _)⟩
          refine env_back0 (envS_hit (sl := [(0, 27), (1, 28), (2, 29), (3, 30), (4, 31), (5, 32), (6, 7)]) (j := 4) (d := 31) rfl (fun _ _ h => h))  (envS_next ?_)
          · intro p hp hne; simp only [List.mem_cons, List.not_mem_nil, or_false] at hp; rcases hp with rfl | rfl | rfl | rfl | rfl | rfl | rfl <;> first | exact absurd rfl hne | exact ⟨rfl, rfl⟩
        · have d3 := hdir 3 (List.mem_of_elem_eq_true (by kernel_rfl))
          have d4 := hdir 4 (List.mem_of_elem_eq_true (by kernel_rfl))
          refine ⟨_, rfl, ?_⟩
          refine LP.weak (t := 30) (v := .raw (.map (some ma))) (envS_is (j := 3) rfl d3) ?_
          refine LP.weak (t := 31) (v := .agg (vxL b)) (envS_is (j := 4) rfl d4) ?_
          refine A.u (LU.weak (LU.lookup 4 (KeyOk.vx vxty) rfl Tryd.underlying65 Tryd.zeroValue73 Is.rfl' (by exact Is.vx _)) (hyi)) rfl ?_
          refine ⟨⟨c_, z_⟩, Weaker.mk' ?_ (HSub.refl _)⟩
          refine env_back2 (envS_hit (sl := [(0, 27), (1, 28), (2, 29), (3, 30), (4, 31), (5, 32), (6, 7)]) (j := 5) (d := 32) rfl (fun _ _ h => h)) (envS_hit (sl := [(0, 27), (1, 28), (2, 29), (3, 30), (4, 31), (5, 32), (6, 7)]) (j := 4) (d := 31) rfl (fun _ _ h => h)) (envS_hit (sl := [(0, 27), (1, 28), (2, 29), (3, 30), (4, 31), (5, 32), (6, 7)]) (j := 3) (d := 30) rfl (fun _ _ h => h)) (envS_next ?_)
          · intro p hp hne; simp only [List.mem_cons, List.not_mem_nil, or_false] at hp; rcases hp with rfl | rfl | rfl | rfl | rfl | rfl | rfl <;> first | exact absurd rfl hne | exact ⟨rfl, rfl⟩
        · refine ⟨_, rfl, ?_⟩
          refine A.act (X.alloc rfl Tryd.zeroValue73 (by exact Cells.rawagg (by decide)) (fun b7 => ?_))
          refine ⟨(b7, 0), Weaker.mk' ?_ (by show L.HSub (_ :: cond (f 6) _ (.tail 0 0 0) :: _) _; rw [hfi]; exact HSub.cons (HSub.drop (HSub.refl _)))⟩
          refine env_back0 (envS_hit (sl := [(0, 27), (1, 28), (2, 29), (3, 30), (4, 31), (5, 32), (6, 7)]) (j := 6) (d := 7) rfl (fun _ _ h => h))  (envS_next ?_)
          · intro p hp hne; simp only [List.mem_cons, List.not_mem_nil, or_false] at hp; rcases hp with rfl | rfl | rfl | rfl | rfl | rfl | rfl <;> first | exact absurd rfl hne | exact ⟨rfl, rfl⟩
      · intro g_ f hf_
        obtain ⟨c_, z_⟩ := g_
        refine X.ghost (H' := .cells c_ 73 (raws z73.cells.toList) :: .cells b4 35 (vxL a) :: .cells b5 35 (vxL b) :: gC g ma mb n :: gA ma m1 :: Rf) (by show L.HSub (cond (f 6) _ (.tail 0 0 0) :: _) _; rw [hf_ 6 (by omega)]; exact HSub.refl _) ?_
        refine X.act (X.store 0 rfl Tryd.sizeOf73 Is.rfl' Is.rfl' (by exact Cells.agg) (by (simp; done)) (by exact Nat.le_of_ble_eq_true rfl) ?_)
        refine LL.nil (after_code ?_)
        refine LW.seq ?_
        refine X.wcells (ys := lnL y) rfl ?_
        refine X.wghost (H' := .cells c_ 73 (lnL y) :: gC g ma mb n :: gA ma m1 :: .cells b4 35 (vxL a) :: .cells b5 35 (vxL b) :: Rf) (by repeat (first | exact HSub.refl _ | refine HSub.pick 0 rfl ?_ | refine HSub.pick 2 rfl ?_)) ?_
        refine LW.invM (m := 6) (γ := Nat × Nat × Nat × Nat × Nat × Nat) [(0, 33), (1, 34), (2, 35), (3, 36), (4, 37), (5, 38)] (fun g_ d => match g_ with | ⟨r1, r2, r3, r4, r5, r6⟩ => match d with | 33 => .raw (.pointer (some ⟨c_, 4, none⟩)) | 34 => Vxs y.prev .unk | 35 => Vxs y.prev (.tok r1 r2 r3) | 36 => .agg (vxL a) | 37 => .sl 33 [vxL a] .full | 38 => Vxs (y.prev ++ [a]) (.tok r4 r5 r6) | _ => .any) (fun g_ f => match g_ with | ⟨r1, r2, r3, r4, r5, r6⟩ => cond (f 5) (.tail r4 r5 r6) (cond (f 2) (.tail r1 r2 r3) (.tail 0 0 0)) :: .cells c_ 73 (lnL y) :: gC g ma mb n :: gA ma m1 :: .cells b4 35 (vxL a) :: .cells b5 35 (vxL b) :: Rf) (0, 0, 0, 0, 0, 0) rfl (by kernel_rfl) rfl rfl ((HSub.trans (by repeat (exact HSub.refl _)) (HSub.tail0 0 0 0 (Nat.le_refl _) _))) ?_ ?_
        · intro i hi f g_ hfi hdir hdown
          obtain ⟨r1, r2, r3, r4, r5, r6⟩ := g_
          have hc : i = 0 ∨ i = 1 ∨ i = 2 ∨ i = 3 ∨ i = 4 ∨ i = 5 := by omega
          rcases hc with rfl | rfl | rfl | rfl | rfl | rfl
          · refine ⟨_, rfl, ?_⟩
            refine A.u (LU.fieldO Tryd.underlying73 rfl Tryd.sizeOf26 (by decide) Is.rfl') rfl ?_
            refine ⟨⟨r1, r2, r3, r4, r5, r6⟩, Weaker.mk' ?_ (HSub.refl _)⟩
            refine env_back0 (envS_hit (sl := [(0, 33), (1, 34), (2, 35), (3, 36), (4, 37), (5, 38)]) (j := 0) (d := 33) rfl (fun _ _ h => h))  (envS_next ?_)
            · intro p hp hne; simp only [List.mem_cons, List.not_mem_nil, or_false] at hp; rcases hp with rfl | rfl | rfl | rfl | rfl | rfl <;> first | exact absurd rfl hne | exact ⟨rfl, rfl⟩
          · have d0 := hdir 0 (List.mem_of_elem_eq_true (by kernel_rfl))
            refine ⟨_, rfl, ?_⟩
            refine LP.weak (t := 33) (v := .raw (.pointer (some ⟨c_, 4, none⟩))) (envS_is (j := 0) rfl d0) ?_
            refine A.u (LU.loadO 1 rfl ⟨Tryd.sizeOf26, Tryd.isAgg26⟩ Is.rfl' (Part.one rfl)) rfl ?_
            refine ⟨⟨r1, r2, r3, r4, r5, r6⟩, Weaker.mk' ?_ (HSub.refl _)⟩
            refine env_back1 (envS_hit (sl := [(0, 33), (1, 34), (2, 35), (3, 36), (4, 37), (5, 38)]) (j := 1) (d := 34) rfl (fun _ _ h => h)) (envS_hit (sl := [(0, 33), (1, 34), (2, 35), (3, 36), (4, 37), (5, 38)]) (j := 0) (d := 33) rfl (fun _ _ h => h)) (envS_next ?_)
            · intro p hp hne; simp only [List.mem_cons, List.not_mem_nil, or_false] at hp; rcases hp with rfl | rfl | rfl | rfl | rfl | rfl <;> first | exact absurd rfl hne | exact ⟨rfl, rfl⟩
          · have d1 := hdir 1 (List.mem_of_elem_eq_true (by kernel_rfl))
            refine ⟨_, rfl, ?_⟩
            have h6 : f 5 = false := Bool.eq_false_iff.2 (fun h => by rw [hdown 5 (by omega) h 2 (List.mem_of_elem_eq_true (by kernel_rfl))] at hfi; cases hfi)
            refine LP.ghost (H' := .cells c_ 73 (lnL y) :: gC g ma mb n :: gA ma m1 :: .cells b4 35 (vxL a) :: .cells b5 35 (vxL b) :: Rf) (by show L.HSub (cond (f 5) _ (cond (f 2) _ _) :: _) _; rw [h6, hfi]; exact HSub.drop (HSub.refl _)) ?_
            refine LP.weak (t := 34) (v := Vxs y.prev .unk) (envS_is (j := 1) rfl d1) ?_
            refine A.act (X.call (clone_calls y.prev .unk (by omega)) Tryd.func36 rfl rfl rfl (HSub.refl _) (Opds.cons Is.rfl' Opds.nil) ?_)
            rintro r H' ⟨b35, o35, c35, rfl, rfl⟩
            refine ⟨(b35, o35, c35, r4, r5, r6), Weaker.mk' ?_ (by show L.HSub _ (cond (f 5) _ (.tail b35 o35 c35) :: _); rw [h6]; exact HSub.refl _)⟩
            refine env_back1 (envS_hit (sl := [(0, 33), (1, 34), (2, 35), (3, 36), (4, 37), (5, 38)]) (j := 2) (d := 35) rfl (fun _ _ h => h)) (envS_hit (sl := [(0, 33), (1, 34), (2, 35), (3, 36), (4, 37), (5, 38)]) (j := 1) (d := 34) rfl (fun _ _ h => h)) (envS_next ?_)
            · intro p hp hne; simp only [List.mem_cons, List.not_mem_nil, or_false] at hp; rcases hp with rfl | rfl | rfl | rfl | rfl | rfl <;> first | exact absurd rfl hne | exact ⟨rfl, rfl⟩
          · refine ⟨_, rfl, ?_⟩
            refine A.u (LU.loadO 4 rfl ⟨Tryd.sizeOf35, Tryd.isAgg35⟩ Is.rfl' (Part.whole (by assumption))) rfl ?_
            refine ⟨⟨r1, r2, r3, r4, r5, r6⟩, Weaker.mk' ?_ (HSub.refl _)⟩
            refine env_back0 (envS_hit (sl := [(0, 33), (1, 34), (2, 35), (3, 36), (4, 37), (5, 38)]) (j := 3) (d := 36) rfl (fun _ _ h => h))  (envS_next ?_)
            · intro p hp hne; simp only [List.mem_cons, List.not_mem_nil, or_false] at hp; rcases hp with rfl | rfl | rfl | rfl | rfl | rfl <;> first | exact absurd rfl hne | exact ⟨rfl, rfl⟩
          · have d3 := hdir 3 (List.mem_of_elem_eq_true (by kernel_rfl))
            refine ⟨_, rfl, ?_⟩
            refine LP.weak (t := 36) (v := .agg (vxL a)) (envS_is (j := 3) rfl d3) ?_
            refine A.u (LU.lits Tryd.underlying26 Tryd.sizeOf35 Tryd.zeroValue35 (ones rfl) rfl (by decide) (by decide) (Elems.cons Is.rfl' (by exact Cells.agg) Elems.nil) (by (simp; assumption)) rfl) rfl ?_
            refine ⟨⟨r1, r2, r3, r4, r5, r6⟩, Weaker.mk' ?_ (HSub.refl _)⟩
            refine env_back1 (envS_hit (sl := [(0, 33), (1, 34), (2, 35), (3, 36), (4, 37), (5, 38)]) (j := 4) (d := 37) rfl (fun _ _ h => h)) (envS_hit (sl := [(0, 33), (1, 34), (2, 35), (3, 36), (4, 37), (5, 38)]) (j := 3) (d := 36) rfl (fun _ _ h => h)) (envS_next ?_)
            · intro p hp hne; simp only [List.mem_cons, List.not_mem_nil, or_false] at hp; rcases hp with rfl | rfl | rfl | rfl | rfl | rfl <;> first | exact absurd rfl hne | exact ⟨rfl, rfl⟩
          · have d2 := hdir 2 (List.mem_of_elem_eq_true (by kernel_rfl))
            have d4 := hdir 4 (List.mem_of_elem_eq_true (by kernel_rfl))
            refine ⟨_, rfl, ?_⟩
            have h2 : f 2 = true := hdir 2 (List.mem_of_elem_eq_true (by kernel_rfl))
            refine LP.ghost (H' := .tail r1 r2 r3 :: .cells c_ 73 (lnL y) :: gC g ma mb n :: gA ma m1 :: .cells b4 35 (vxL a) :: .cells b5 35 (vxL b) :: Rf) (by show L.HSub (cond (f 5) _ (cond (f 2) _ _) :: _) _; rw [h2, hfi]; exact HSub.refl _) ?_
            refine LP.weak (t := 35) (v := Vxs y.prev (.tok r1 r2 r3)) (envS_is (j := 2) rfl d2) ?_
            refine LP.weak (t := 37) (v := .sl 33 [vxL a] .full) (envS_is (j := 4) rfl d4) ?_
            refine A.act (X.append 0 rfl rfl Tryd.underlying26 (El.of (P := Tryd.prog) (z := (.agg #[(.int .u8 0), (.int .u8 0), (.int .u8 0), (.int .u8 0), (.int .u8 0), (.int .u8 0), (.int .u8 0), (.int .u8 0), (.int .u8 0), (.int .u8 0), (.int .u8 0), (.int .u8 0), (.int .u8 0), (.int .u8 0), (.int .u8 0), (.int .u8 0), (.int .u8 0), (.int .u8 0), (.int .u8 0), (.int .u8 0), (.int .u8 0), (.int .u8 0), (.int .u8 0), (.int .u8 0), (.int .u8 0), (.int .u8 0), (.int .u8 0), (.int .u8 0), (.int .u8 0), (.int .u8 0), (.int .u8 0), (.int .u8 0), (.int .i64 0)])) (size := 33) (bytes := 40) rfl rfl rfl) Is.rfl' Is.rfl' (SrcL.slice Tryd.underlying26 (by decide) (by intro e he; rw [List.mem_singleton.1 he]; exact hal)) (by simp only [Option.getD_some, Option.getD_none, byteEls_length, intEls_length, List.length_append, List.length_cons, List.length_nil, List.length_map, List.length_drop, List.length_take, Int.toNat_natCast]; omega) (by simp only [Option.getD_some, Option.getD_none, byteEls_length, intEls_length, List.length_append, List.length_cons, List.length_nil, List.length_map, List.length_drop, List.length_take, Int.toNat_natCast]; omega) (fun b38 o38 c38 => ?_))
            refine ⟨(r1, r2, r3, b38, o38, c38), Weaker.mk' ?_ (HSub.refl _)⟩
            refine env_back2 (envS_hit (sl := [(0, 33), (1, 34), (2, 35), (3, 36), (4, 37), (5, 38)]) (j := 5) (d := 38) rfl (Is.of (congrArg (fun z => LV.sl 33 z (.tok b38 o38 c38)) (vxs_app y.prev [a])))) (envS_hit (sl := [(0, 33), (1, 34), (2, 35), (3, 36), (4, 37), (5, 38)]) (j := 4) (d := 37) rfl (fun _ _ h => h)) (envS_hit (sl := [(0, 33), (1, 34), (2, 35), (3, 36), (4, 37), (5, 38)]) (j := 2) (d := 35) rfl (fun _ _ h => h)) (envS_next ?_)
            · intro p hp hne; simp only [List.mem_cons, List.not_mem_nil, or_false] at hp; rcases hp with rfl | rfl | rfl | rfl | rfl | rfl <;> first | exact absurd rfl hne | exact ⟨rfl, rfl⟩
        · intro g_ f hf_
          obtain ⟨r1, r2, r3, r4, r5, r6⟩ := g_
          refine X.ghost (H' := .tail r4 r5 r6 :: .cells c_ 73 (lnL y) :: gC g ma mb n :: gA ma m1 :: .cells b4 35 (vxL a) :: .cells b5 35 (vxL b) :: Rf) (by show L.HSub (cond (f 5) _ _ :: _) _; rw [hf_ 5 (by omega)]; exact HSub.refl _) ?_
          refine X.u (LU.fieldO Tryd.underlying73 rfl Tryd.sizeOf26 (by decide) Is.rfl') rfl ?_
          refine X.act (X.store 1 rfl Tryd.sizeOf26 Is.rfl' Is.rfl' (by exact Cells.sl) (by (simp; done)) (by (simp; done)) ?_)
          refine LL.nil (after_code ?_)
          refine X.wcells (ys := [Str y.text, .sl 32 (hss y.kills) .unk, i64 y.part, Vxs y.next .unk, Vxs (y.prev ++ [a]) (.tok r4 r5 r6)]) rfl ?_
          refine X.wghost (H' := .cells c_ 73 (lnL { y with prev := y.prev ++ [a] }) :: gC g ma mb n :: gA ma m1 :: .cells b4 35 (vxL a) :: .cells b5 35 (vxL b) :: Rf) (HSub.trans (B := .cells c_ 73 [Str y.text, .sl 32 (hss y.kills) .unk, i64 y.part, Vxs y.next .unk, Vxs (y.prev ++ [a]) (.tok r4 r5 r6)] :: gC g ma mb n :: gA ma m1 :: .cells b4 35 (vxL a) :: .cells b5 35 (vxL b) :: Rf) (by repeat (first | exact HSub.refl _ | refine HSub.pick 0 rfl ?_ | refine HSub.pick 1 rfl ?_ | refine HSub.drop ?_)) (HSub.cell 4 rfl Is.unk)) ?_
          refine X.drawM 6 rfl (by kernel_rfl) rfl ?_
          refine QD.u (LU.moveR Is.rfl') rfl ?_
          refine QD.u (LU.nilCheck Is.rfl') rfl ?_
          refine QD.u (LU.fieldO Tryd.underlying68 rfl Tryd.sizeOf65 (by decide) Is.rfl') rfl ?_
          refine QD.u (LU.loadO 1 rfl ⟨Tryd.sizeOf65, Tryd.isAgg65⟩ Is.rfl' (Part.one rfl)) rfl ?_
          refine QD.u (LU.loadO 4 rfl ⟨Tryd.sizeOf35, Tryd.isAgg35⟩ Is.rfl' (Part.whole (by assumption))) rfl ?_
          refine QD.u (LU.loadO 0 rfl ⟨Tryd.sizeOf73, Tryd.isAgg73⟩ Is.rfl' (Part.whole (by (simp; done)))) rfl ?_
          refine QD.nil ?_
          refine X.act (LO.mapUpdate (st := ⟨_, _, _⟩) 2 (KeyOk.vx vxty) rfl Tryd.underlying65 Is.rfl' (by exact Is.vx _) Is.rfl' ?_)
          refine LL.nil (after_end ?_)
          refine X.normal (H' := [gC g ma mb n, gA ma (setA m1 b { y with prev := y.prev ++ [a] })]) Res.none (by rw [← gA_set]; exact (by repeat (first | exact HSub.refl _ | refine HSub.pick 0 rfl ?_ | refine HSub.pick 2 rfl ?_ | refine HSub.drop ?_))) ?_
          exact ⟨rfl, rfl⟩
end Go.Proofs.YtolpkeajokjbjaaDoor
namespace Go.Proofs.YtolpkeajokjbjaaDoor
open Go.RowKit Go.L
attribute [local irreducible] LL LW LO LP LA
theorem is_tup2 {a b c d : LV} (h1 : Is a c) (h2 : Is b d) : Is (.tup [a, b]) (.tup [c, d]) := fun ph u r => by
  cases r with | tup cs _ hl hr =>
    refine .tup cs _ hl fun i v y hi hy => ?_
    match i, hy with
    | 0, hy => cases hy; exact h1 _ _ (hr 0 v a hi rfl)
    | 1, hy => cases hy; exact h2 _ _ (hr 1 v b hi rfl)
theorem ok_is (m : At) (v : Vx) : Is (.tup [(lookM (encM lnE m) v).getD (.raw z73), .raw (.bool (lookM (encM lnE m) v).isSome)]) (.tup [lnE (atG m v), bl (lookA m v).isSome]) :=
  is_tup2 (at_is m v) (by rw [look_enc, Option.isSome_map]; exact Is.rfl')
set_option maxHeartbeats 1000000 in
set_option maxRecDepth 100000 in
theorem has_calls (g ma mb : Nat) (n : Int) (m : At) (v : Vx) : LCalls Tryd.prog 20 [pt g, .agg (vxL v)] [gC g ma mb n, gA ma m] (fun r H' => r = bl (lookA m v).isSome ∧ H' = [gC g ma mb n, gA ma m]) := by
  have hvl := vxL_len v
  have hok := ok_is m v
  obtain ⟨x, hx⟩ : ∃ x, x = atG m v := ⟨_, rfl⟩
  obtain ⟨w, hw⟩ : ∃ w, w = (lookA m v).isSome := ⟨_, rfl⟩
  rw [← hx, ← hw] at hok
  rw [← hw]
  refine LCalls.of Tryd.func20 rfl Tryd.ntmps20 Tryd.results20 rfl (fun Rf => ?_)
  refine LW.seq ?_
  refine LW.region ?_
  refine X.act (X.box rfl Is.rfl' (by exact Cells.agg) (fun b3 => ?_))
  refine X.u (LU.assignR Is.rfl') rfl ?_
  refine LL.nil (after_code ?_)
  refine LW.seq ?_
  refine LW.seq ?_
  refine LW.region ?_
  refine X.u (LU.moveR Is.rfl') rfl ?_
  refine X.u (LU.call1 1 rfl (none_calls g ma mb n) Tryd.func33 rfl rfl (Opds.cons Is.rfl' Opds.nil)) rfl ?_
  refine LL.nil (after_code ?_)
  refine X.condF rfl ?_ ?_
  · rfl
  refine LW.skip (after_code ?_)
  refine LW.seq ?_
  refine LW.invB (m := 12) (γ := Nat × Nat) [(0, 10), (1, 11), (2, 12), (3, 13), (4, 14), (5, 15), (6, 9), (7, 16), (8, 17), (9, 5), (11, 6)] (fun g_ d => match g_ with | ⟨b_, z_⟩ => match d with | 10 => pt g | 11 => pt g | 12 => pt g | 13 => .raw (.map (some ma)) | 14 => .agg (vxL v) | 15 => .tup [lnE x, bl w] | 9 => .tup [lnE x, bl w] | 16 => lnE x | 17 => bl w | 5 => pt b_ | 6 => bl w | _ => .any) (fun g_ f => match g_ with | ⟨b_, z_⟩ => cond (f 9) (.cells b_ 73 (cond (f 10) (lnL x) (raws z73.cells.toList))) (.tail 0 0 0) :: .cells b3 35 (vxL v) :: gC g ma mb n :: gA ma m :: Rf) (0, 0) rfl (by kernel_rfl) rfl rfl ((HSub.trans (by repeat (exact HSub.refl _)) (HSub.tail0 0 0 0 (Nat.le_refl _) _))) ?_ ?_
  · intro i hi f g_ hfi hdir hdown
    obtain ⟨b_, z_⟩ := g_
    have hc : i = 0 ∨ i = 1 ∨ i = 2 ∨ i = 3 ∨ i = 4 ∨ i = 5 ∨ i = 6 ∨ i = 7 ∨ i = 8 ∨ i = 9 ∨ i = 10 ∨ i = 11 := by omega
    rcases hc with rfl | rfl | rfl | rfl | rfl | rfl | rfl | rfl | rfl | rfl | rfl | rfl
    · refine ⟨_, rfl, ?_⟩
      refine A.u (LU.moveR Is.rfl') rfl ?_
      refine ⟨⟨b_, z_⟩, Weaker.mk' ?_ (HSub.refl _)⟩
      refine env_back0 (envS_hit (sl := [(0, 10), (1, 11), (2, 12), (3, 13), (4, 14), (5, 15), (6, 9), (7, 16), (8, 17), (9, 5), (11, 6)]) (j := 0) (d := 10) rfl (fun _ _ h => h))  (envS_next ?_)
      · intro p hp hne; simp only [List.mem_cons, List.not_mem_nil, or_false] at hp; rcases hp with rfl | rfl | rfl | rfl | rfl | rfl | rfl | rfl | rfl | rfl | rfl <;> first | exact absurd rfl hne | exact ⟨rfl, rfl⟩
    · have d0 := hdir 0 (List.mem_of_elem_eq_true (by kernel_rfl))
      refine ⟨_, rfl, ?_⟩
      refine LP.weak (t := 10) (v := pt g) (envS_is (j := 0) rfl d0) ?_
      refine A.u (LU.nilCheck Is.rfl') rfl ?_
      refine ⟨⟨b_, z_⟩, Weaker.mk' ?_ (HSub.refl _)⟩
      refine env_back1 (envS_hit (sl := [(0, 10), (1, 11), (2, 12), (3, 13), (4, 14), (5, 15), (6, 9), (7, 16), (8, 17), (9, 5), (11, 6)]) (j := 1) (d := 11) rfl (fun _ _ h => h)) (envS_hit (sl := [(0, 10), (1, 11), (2, 12), (3, 13), (4, 14), (5, 15), (6, 9), (7, 16), (8, 17), (9, 5), (11, 6)]) (j := 0) (d := 10) rfl (fun _ _ h => h)) (envS_next ?_)
      · intro p hp hne; simp only [List.mem_cons, List.not_mem_nil, or_false] at hp; rcases hp with rfl | rfl | rfl | rfl | rfl | rfl | rfl | rfl | rfl | rfl | rfl <;> first | exact absurd rfl hne | exact ⟨rfl, rfl⟩
    · have d1 := hdir 1 (List.mem_of_elem_eq_true (by kernel_rfl))
      refine ⟨_, rfl, ?_⟩
      refine LP.weak (t := 11) (v := pt g) (envS_is (j := 1) rfl d1) ?_
      refine A.u (LU.fieldO Tryd.underlying68 rfl Tryd.sizeOf65 (by decide) Is.rfl') rfl ?_
      refine ⟨⟨b_, z_⟩, Weaker.mk' ?_ (HSub.refl _)⟩
      refine env_back1 (envS_hit (sl := [(0, 10), (1, 11), (2, 12), (3, 13), (4, 14), (5, 15), (6, 9), (7, 16), (8, 17), (9, 5), (11, 6)]) (j := 2) (d := 12) rfl (fun _ _ h => h)) (envS_hit (sl := [(0, 10), (1, 11), (2, 12), (3, 13), (4, 14), (5, 15), (6, 9), (7, 16), (8, 17), (9, 5), (11, 6)]) (j := 1) (d := 11) rfl (fun _ _ h => h)) (envS_next ?_)
      · intro p hp hne; simp only [List.mem_cons, List.not_mem_nil, or_false] at hp; rcases hp with rfl | rfl | rfl | rfl | rfl | rfl | rfl | rfl | rfl | rfl | rfl <;> first | exact absurd rfl hne | exact ⟨rfl, rfl⟩
    · have d2 := hdir 2 (List.mem_of_elem_eq_true (by kernel_rfl))
      refine ⟨_, rfl, ?_⟩
      refine LP.weak (t := 12) (v := pt g) (envS_is (j := 2) rfl d2) ?_
      refine A.u (LU.loadO 2 rfl ⟨Tryd.sizeOf65, Tryd.isAgg65⟩ Is.rfl' (Part.one rfl)) rfl ?_
      refine ⟨⟨b_, z_⟩, Weaker.mk' ?_ (HSub.refl _)⟩
      refine env_back1 (envS_hit (sl := [(0, 10), (1, 11), (2, 12), (3, 13), (4, 14), (5, 15), (6, 9), (7, 16), (8, 17), (9, 5), (11, 6)]) (j := 3) (d := 13) rfl (fun _ _ h => h)) (envS_hit (sl := [(0, 10), (1, 11), (2, 12), (3, 13), (4, 14), (5, 15), (6, 9), (7, 16), (8, 17), (9, 5), (11, 6)]) (j := 2) (d := 12) rfl (fun _ _ h => h)) (envS_next ?_)
      · intro p hp hne; simp only [List.mem_cons, List.not_mem_nil, or_false] at hp; rcases hp with rfl | rfl | rfl | rfl | rfl | rfl | rfl | rfl | rfl | rfl | rfl <;> first | exact absurd rfl hne | exact ⟨rfl, rfl⟩
    · refine ⟨_, rfl, ?_⟩
      refine A.u (LU.loadO 1 rfl ⟨Tryd.sizeOf35, Tryd.isAgg35⟩ Is.rfl' (Part.whole (by assumption))) rfl ?_
      refine ⟨⟨b_, z_⟩, Weaker.mk' ?_ (HSub.refl _)⟩
      refine env_back0 (envS_hit (sl := [(0, 10), (1, 11), (2, 12), (3, 13), (4, 14), (5, 15), (6, 9), (7, 16), (8, 17), (9, 5), (11, 6)]) (j := 4) (d := 14) rfl (fun _ _ h => h))  (envS_next ?_)
      · intro p hp hne; simp only [List.mem_cons, List.not_mem_nil, or_false] at hp; rcases hp with rfl | rfl | rfl | rfl | rfl | rfl | rfl | rfl | rfl | rfl | rfl <;> first | exact absurd rfl hne | exact ⟨rfl, rfl⟩
    · have d3 := hdir 3 (List.mem_of_elem_eq_true (by kernel_rfl))
      have d4 := hdir 4 (List.mem_of_elem_eq_true (by kernel_rfl))
      refine ⟨_, rfl, ?_⟩
      refine LP.weak (t := 13) (v := .raw (.map (some ma))) (envS_is (j := 3) rfl d3) ?_
      refine LP.weak (t := 14) (v := .agg (vxL v)) (envS_is (j := 4) rfl d4) ?_
      refine A.u (LU.lookupOk 3 (KeyOk.vx vxty) rfl Tryd.underlying65 Tryd.zeroValue73 Is.rfl' (by exact Is.vx _)) rfl ?_
      refine ⟨⟨b_, z_⟩, Weaker.mk' ?_ (HSub.refl _)⟩
      refine env_back2 (envS_hit (sl := [(0, 10), (1, 11), (2, 12), (3, 13), (4, 14), (5, 15), (6, 9), (7, 16), (8, 17), (9, 5), (11, 6)]) (j := 5) (d := 15) rfl (hok)) (envS_hit (sl := [(0, 10), (1, 11), (2, 12), (3, 13), (4, 14), (5, 15), (6, 9), (7, 16), (8, 17), (9, 5), (11, 6)]) (j := 4) (d := 14) rfl (fun _ _ h => h)) (envS_hit (sl := [(0, 10), (1, 11), (2, 12), (3, 13), (4, 14), (5, 15), (6, 9), (7, 16), (8, 17), (9, 5), (11, 6)]) (j := 3) (d := 13) rfl (fun _ _ h => h)) (envS_next ?_)
      · intro p hp hne; simp only [List.mem_cons, List.not_mem_nil, or_false] at hp; rcases hp with rfl | rfl | rfl | rfl | rfl | rfl | rfl | rfl | rfl | rfl | rfl <;> first | exact absurd rfl hne | exact ⟨rfl, rfl⟩
    · have d5 := hdir 5 (List.mem_of_elem_eq_true (by kernel_rfl))
      refine ⟨_, rfl, ?_⟩
      refine LP.weak (t := 15) (v := .tup [lnE x, bl w]) (envS_is (j := 5) rfl d5) ?_
      refine A.u (LU.moveT Is.rfl') rfl ?_
      refine ⟨⟨b_, z_⟩, Weaker.mk' ?_ (HSub.refl _)⟩
      refine env_back1 (envS_hit (sl := [(0, 10), (1, 11), (2, 12), (3, 13), (4, 14), (5, 15), (6, 9), (7, 16), (8, 17), (9, 5), (11, 6)]) (j := 6) (d := 9) rfl (fun _ _ h => h)) (envS_hit (sl := [(0, 10), (1, 11), (2, 12), (3, 13), (4, 14), (5, 15), (6, 9), (7, 16), (8, 17), (9, 5), (11, 6)]) (j := 5) (d := 15) rfl (fun _ _ h => h)) (envS_next ?_)
      · intro p hp hne; simp only [List.mem_cons, List.not_mem_nil, or_false] at hp; rcases hp with rfl | rfl | rfl | rfl | rfl | rfl | rfl | rfl | rfl | rfl | rfl <;> first | exact absurd rfl hne | exact ⟨rfl, rfl⟩
    · have d6 := hdir 6 (List.mem_of_elem_eq_true (by kernel_rfl))
      refine ⟨_, rfl, ?_⟩
      refine LP.weak (t := 9) (v := .tup [lnE x, bl w]) (envS_is (j := 6) rfl d6) ?_
      refine A.u (LU.extract Is.rfl' rfl) rfl ?_
      refine ⟨⟨b_, z_⟩, Weaker.mk' ?_ (HSub.refl _)⟩
      refine env_back1 (envS_hit (sl := [(0, 10), (1, 11), (2, 12), (3, 13), (4, 14), (5, 15), (6, 9), (7, 16), (8, 17), (9, 5), (11, 6)]) (j := 7) (d := 16) rfl (fun _ _ h => h)) (envS_hit (sl := [(0, 10), (1, 11), (2, 12), (3, 13), (4, 14), (5, 15), (6, 9), (7, 16), (8, 17), (9, 5), (11, 6)]) (j := 6) (d := 9) rfl (fun _ _ h => h)) (envS_next ?_)
      · intro p hp hne; simp only [List.mem_cons, List.not_mem_nil, or_false] at hp; rcases hp with rfl | rfl | rfl | rfl | rfl | rfl | rfl | rfl | rfl | rfl | rfl <;> first | exact absurd rfl hne | exact ⟨rfl, rfl⟩
    · have d6 := hdir 6 (List.mem_of_elem_eq_true (by kernel_rfl))
      refine ⟨_, rfl, ?_⟩
      refine LP.weak (t := 9) (v := .tup [lnE x, bl w]) (envS_is (j := 6) rfl d6) ?_
      refine A.u (LU.extract Is.rfl' rfl) rfl ?_
      refine ⟨⟨b_, z_⟩, Weaker.mk' ?_ (HSub.refl _)⟩
      refine env_back1 (envS_hit (sl := [(0, 10), (1, 11), (2, 12), (3, 13), (4, 14), (5, 15), (6, 9), (7, 16), (8, 17), (9, 5), (11, 6)]) (j := 8) (d := 17) rfl (fun _ _ h => h)) (envS_hit (sl := [(0, 10), (1, 11), (2, 12), (3, 13), (4, 14), (5, 15), (6, 9), (7, 16), (8, 17), (9, 5), (11, 6)]) (j := 6) (d := 9) rfl (fun _ _ h => h)) (envS_next ?_)
      · intro p hp hne; simp only [List.mem_cons, List.not_mem_nil, or_false] at hp; rcases hp with rfl | rfl | rfl | rfl | rfl | rfl | rfl | rfl | rfl | rfl | rfl <;> first | exact absurd rfl hne | exact ⟨rfl, rfl⟩
    · refine ⟨_, rfl, ?_⟩
      have h6 : f 10 = false := Bool.eq_false_iff.2 (fun h => by rw [hdown 10 (by omega) h 9 (List.mem_of_elem_eq_true (by kernel_rfl))] at hfi; cases hfi)
      refine LP.ghost (H' := .cells b3 35 (vxL v) :: gC g ma mb n :: gA ma m :: Rf) (by show L.HSub (cond (f 9) _ (.tail 0 0 0) :: _) _; rw [hfi]; exact HSub.drop (HSub.refl _)) ?_
      refine A.act (X.alloc rfl Tryd.zeroValue73 (by exact Cells.rawagg (by decide)) (fun b5 => ?_))
      refine ⟨(b5, 0), Weaker.mk' ?_ (by show L.HSub _ (.cells b5 _ (cond (f 10) _ _) :: _); rw [h6]; exact HSub.refl _)⟩
      refine env_back0 (envS_hit (sl := [(0, 10), (1, 11), (2, 12), (3, 13), (4, 14), (5, 15), (6, 9), (7, 16), (8, 17), (9, 5), (11, 6)]) (j := 9) (d := 5) rfl (fun _ _ h => h))  (envS_next ?_)
      · intro p hp hne; simp only [List.mem_cons, List.not_mem_nil, or_false] at hp; rcases hp with rfl | rfl | rfl | rfl | rfl | rfl | rfl | rfl | rfl | rfl | rfl <;> first | exact absurd rfl hne | exact ⟨rfl, rfl⟩
    · have d0 := hdir 0 (List.mem_of_elem_eq_true (by kernel_rfl))
      have d1 := hdir 1 (List.mem_of_elem_eq_true (by kernel_rfl))
      have d2 := hdir 2 (List.mem_of_elem_eq_true (by kernel_rfl))
      have d3 := hdir 3 (List.mem_of_elem_eq_true (by kernel_rfl))
      have d4 := hdir 4 (List.mem_of_elem_eq_true (by kernel_rfl))
      have d5 := hdir 5 (List.mem_of_elem_eq_true (by kernel_rfl))
      have d6 := hdir 6 (List.mem_of_elem_eq_true (by kernel_rfl))
      have d7 := hdir 7 (List.mem_of_elem_eq_true (by kernel_rfl))
      have d9 := hdir 9 (List.mem_of_elem_eq_true (by kernel_rfl))
      refine ⟨_, rfl, ?_⟩
      have h9 : f 9 = true := hdir 9 (List.mem_of_elem_eq_true (by kernel_rfl))
      refine LP.ghost (H' := .cells b_ 73 (raws z73.cells.toList) :: .cells b3 35 (vxL v) :: gC g ma mb n :: gA ma m :: Rf) (by show L.HSub (cond (f 9) (.cells b_ _ (cond (f 10) _ _)) _ :: _) _; rw [h9, hfi]; exact HSub.refl _) ?_
      refine LP.weak (t := 5) (v := pt b_) (envS_is (j := 9) rfl d9) ?_
      refine LP.weak (t := 16) (v := lnE x) (envS_is (j := 7) rfl d7) ?_
      refine A.act (X.store 0 rfl Tryd.sizeOf73 Is.rfl' Is.rfl' (by exact Cells.agg) (by (simp; done)) (by exact Nat.le_of_ble_eq_true rfl) ?_)
      refine ⟨(b_, z_), Weaker.mk' ?_ (by show L.HSub _ (cond (f 9) (.cells b_ _ (lnL x)) _ :: _); rw [h9]; exact HSub.refl _)⟩
      refine env_back1 (envS_hit (sl := [(0, 10), (1, 11), (2, 12), (3, 13), (4, 14), (5, 15), (6, 9), (7, 16), (8, 17), (9, 5), (11, 6)]) (j := 7) (d := 16) rfl (fun _ _ h => h)) (envS_hit (sl := [(0, 10), (1, 11), (2, 12), (3, 13), (4, 14), (5, 15), (6, 9), (7, 16), (8, 17), (9, 5), (11, 6)]) (j := 9) (d := 5) rfl (fun _ _ h => h)) (envS_next ?_)
      · intro p hp hne; simp only [List.mem_cons, List.not_mem_nil, or_false] at hp; rcases hp with rfl | rfl | rfl | rfl | rfl | rfl | rfl | rfl | rfl | rfl | rfl <;> first | exact absurd rfl hne | exact ⟨rfl, rfl⟩
    · have d0 := hdir 0 (List.mem_of_elem_eq_true (by kernel_rfl))
      have d1 := hdir 1 (List.mem_of_elem_eq_true (by kernel_rfl))
      have d2 := hdir 2 (List.mem_of_elem_eq_true (by kernel_rfl))
      have d3 := hdir 3 (List.mem_of_elem_eq_true (by kernel_rfl))
      have d4 := hdir 4 (List.mem_of_elem_eq_true (by kernel_rfl))
      have d5 := hdir 5 (List.mem_of_elem_eq_true (by kernel_rfl))
      have d6 := hdir 6 (List.mem_of_elem_eq_true (by kernel_rfl))
      have d7 := hdir 7 (List.mem_of_elem_eq_true (by kernel_rfl))
      have d8 := hdir 8 (List.mem_of_elem_eq_true (by kernel_rfl))
      have d9 := hdir 9 (List.mem_of_elem_eq_true (by kernel_rfl))
      have d10 := hdir 10 (List.mem_of_elem_eq_true (by kernel_rfl))
      refine ⟨_, rfl, ?_⟩
      refine LP.weak (t := 17) (v := bl w) (envS_is (j := 8) rfl d8) ?_
      refine A.u (LU.assignR Is.rfl') rfl ?_
      refine ⟨⟨b_, z_⟩, Weaker.mk' ?_ (HSub.refl _)⟩
      refine env_back1 (envS_hit (sl := [(0, 10), (1, 11), (2, 12), (3, 13), (4, 14), (5, 15), (6, 9), (7, 16), (8, 17), (9, 5), (11, 6)]) (j := 11) (d := 6) rfl (fun _ _ h => h)) (envS_hit (sl := [(0, 10), (1, 11), (2, 12), (3, 13), (4, 14), (5, 15), (6, 9), (7, 16), (8, 17), (9, 5), (11, 6)]) (j := 8) (d := 17) rfl (fun _ _ h => h)) (envS_next ?_)
      · intro p hp hne; simp only [List.mem_cons, List.not_mem_nil, or_false] at hp; rcases hp with rfl | rfl | rfl | rfl | rfl | rfl | rfl | rfl | rfl | rfl | rfl <;> first | exact absurd rfl hne | exact ⟨rfl, rfl⟩
  · intro g_ f hf_
    obtain ⟨b_, z_⟩ := g_
    refine X.ghost (H' := gC g ma mb n :: gA ma m :: Rf) (HSub.drop (HSub.drop (HSub.refl _))) ?_
    refine LL.nil (after_code ?_)
    refine LW.seq ?_
    refine LW.region ?_
    refine X.u (LU.moveR Is.rfl') rfl ?_
    refine X.u (LU.assignR Is.rfl') rfl ?_
    refine LL.nil (after_code ?_)
    refine LW.ret (after_end ?_)
    refine X.ret (H' := [gC g ma mb n, gA ma m]) (Res.one (by exact IsR rfl)) (by repeat (exact HSub.refl _)) ?_
    exact ⟨rfl, rfl⟩
end Go.Proofs.YtolpkeajokjbjaaDoor
namespace Go.Proofs.YtolpkeajokjbjaaDoor
open Go.RowKit Go.L
attribute [local irreducible] LL LW LO
theorem hpush (a : Atom) (R : List Atom) : ∀ L : List Atom, HSub (a :: (L ++ R)) (L ++ (a :: R))
  | [] => HSub.refl _
  | p :: r => HSub.trans (HSub.pick 1 rfl (HSub.refl _)) (HSub.cons (hpush a R r))
theorem hswap (L R : List Atom) : ∀ K : List Atom, HSub (K ++ (L ++ R)) (L ++ (K ++ R))
  | [] => HSub.refl _
  | k :: K => HSub.trans (HSub.cons (hswap L R K)) (hpush k (K ++ R) L)
/-- An addition. -/
structure Pt where
  up : Vx
  down : Vx
  ids : List Vx
abbrev ptL (p : Pt) : List LV := vxL p.up ++ (vxL p.down ++ [Vxs p.ids .unk])
abbrev ptE (p : Pt) : LV := .agg (ptL p)
theorem pt_len (p : Pt) : (ptL p).length = 67 := by simp [p.up.p.2, p.down.p.2]
theorem pt_up (p : Pt) : ((ptL p).drop 0).take 33 = vxL p.up := by rw [List.drop_zero, List.take_left' (vxL_len p.up)]
theorem pt_down (p : Pt) : ((ptL p).drop 33).take 33 = vxL p.down := by rw [List.drop_left' (vxL_len p.up), List.take_left' (vxL_len p.down)]
theorem pt_ids (p : Pt) : (ptL p)[66]? = some (Vxs p.ids .unk) := by
  rw [List.getElem?_append_right (by rw [vxL_len]; decide), vxL_len, List.getElem?_append_right (by rw [vxL_len]; decide), vxL_len]; rfl
def chainF {S : Type} (F : S → Vx → Vx → S) : S → Vx → List Vx → Vx → S
  | s, a, [], d => F s a d
  | s, a, v :: r, d => chainF F (F s a v) v r d
theorem drop_at {α : Type} {l : List α} {i : Nat} {x : α} (h : l[i]? = some x) : l.drop i = x :: l.drop (i + 1) := by
  obtain ⟨h1, h2⟩ := List.getElem?_eq_some_iff.1 h
  rw [List.drop_eq_getElem_cons h1, h2]
set_option maxHeartbeats 1000000 in
set_option maxRecDepth 100000 in
theorem chain_calls {S : Type} (Hm : S → List Atom) (F : S → Vx → Vx → S) (φ : Nat → S → Prop) (yv : Value) (p : Pt) (s0 : S) (hl : p.ids.length < 1000000)
    (hf : ∀ i s a b, i ≤ p.ids.length → φ i s → FnCalls Tryd.prog yv [.agg (vxL a), .agg (vxL b)] (Hm s) (fun r H' => r = .tup [] ∧ H' = Hm (F s a b)) ∧ φ (i + 1) (F s a b)) (h0 : φ 0 s0) :
    LCalls Tryd.prog 37 [ptE p, .raw yv] (Hm s0) (fun r H' => r = .tup [] ∧ H' = Hm (chainF F s0 p.up p.ids p.down) ∧ φ (p.ids.length + 1) (chainF F s0 p.up p.ids p.down)) := by
  have hpl := pt_len p
  have hul := vxL_len p.up
  have hdl := vxL_len p.down
  have hu32 : p.up.p.1.length = 32 := p.up.p.2
  have hd32 : p.down.p.1.length = 32 := p.down.p.2
  refine LCalls.of Tryd.func37 rfl Tryd.ntmps37 Tryd.results37 rfl (fun Rf => ?_)
  refine LW.seq ?_
  refine LW.region ?_
  refine X.act (X.box rfl Is.rfl' (by exact Cells.agg) (fun b2 => ?_))
  refine LL.nil (after_code ?_)
  refine LW.seq ?_
  refine LW.region ?_
  refine X.u (LU.fieldO Tryd.underlying82 rfl Tryd.sizeOf35 (by decide) Is.rfl') rfl ?_
  refine X.u (LU.weak (LU.loadO 0 rfl ⟨Tryd.sizeOf35, Tryd.isAgg35⟩ Is.rfl' (Part.sub (by (simp; omega)))) (Is.of (y := .agg (vxL p.up)) (congrArg LV.agg (pt_up p)))) rfl ?_
  refine X.act (X.alloc rfl Tryd.zeroValue35 (by exact Cells.rawagg (by decide)) (fun b4 => ?_))
  refine X.act (X.store 0 rfl Tryd.sizeOf35 Is.rfl' Is.rfl' (by exact Cells.agg) (by assumption) (by exact Nat.le_of_ble_eq_true rfl) ?_)
  refine LL.nil (after_code ?_)
  refine LW.seq ?_
  refine LW.seq ?_
  refine X.wcells (ys := vxL p.up) (putAt_all (by rw [hul]; rfl)) ?_
  refine LW.region ?_
  refine X.u (LU.fieldO Tryd.underlying82 rfl Tryd.sizeOf26 (by decide) Is.rfl') rfl ?_
  refine X.u (LU.loadO 1 rfl ⟨Tryd.sizeOf26, Tryd.isAgg26⟩ Is.rfl' (Part.one (pt_ids p))) rfl ?_
  refine X.u (LU.lenN Tryd.underlying26 Is.rfl' (by (simp only [Option.getD_some, Option.getD_none, byteEls_length, intEls_length, List.length_append, List.length_cons, List.length_nil, List.length_map, List.length_drop, List.length_take, Int.toNat_natCast]; rfl))) rfl ?_
  refine X.u (LU.moveR Is.rfl') rfl ?_
  refine LL.nil (after_code ?_)
  refine LW.block ?_
  refine X.loopK (α := Nat × Vx × S) (fun ⟨i, a, s⟩ => [(12, i64 i)]) [1, 2, 4, 10, 11] (fun ⟨i, a, s⟩ => .cells b4 35 (vxL a) :: .cells b2 82 (ptL p) :: (Hm s ++ Rf)) (fun ⟨i, a, s⟩ => i ≤ p.ids.length ∧ φ i s ∧ chainF F s a (p.ids.drop i) p.down = chainF F s0 p.up p.ids p.down) (fun ⟨i, a, s⟩ => p.ids.length - i) ((0, p.up, s0)) (EnvLe.cons (by rfl) (EnvLe.nil)) (by repeat (exact HSub.refl _)) ?_ ?_
  · exact ⟨Nat.zero_le _, h0, rfl⟩
  · rintro ⟨i, a, s⟩ hI
    obtain ⟨hi, hs, hc⟩ := hI
    have hal := vxL_len a
    have ha32 : a.p.1.length = 32 := a.p.2
    refine LW.seq ?_
    refine LW.region ?_
    refine X.u (LU.lss Is.rfl' Is.rfl') rfl ?_
    refine LL.nil (after_code ?_)
    refine LW.seq ?_
    refine X.cond rfl (fun h3 => ?_) (fun h3 => ?_)
    · try have h3 := of_decide_eq_true h3
      refine LW.skip (after_code ?_)
      refine LW.seq ?_
      refine LW.block ?_
      refine LW.seq ?_
      obtain ⟨v, hv⟩ := at_lt (show i < p.ids.length by omega)
      have hvl := vxL_len v
      have hfs := hf i s a v hi hs
      refine LW.region ?_
      refine X.u (LU.at Tryd.underlying26 ⟨Tryd.sizeOf35, Tryd.isAgg35⟩ Is.rfl' Is.rfl' (by omega) (vxs_at hv) (vx_ne v)) rfl ?_
      refine X.u (LU.weak (LU.load ⟨Tryd.sizeOf35, Tryd.isAgg35⟩ Is.rfl' (by assumption) (Part.whole (by assumption))) (Is.of (y := .agg (vxL v)) (rfl))) rfl ?_
      refine X.act (X.alloc rfl Tryd.zeroValue35 (by exact Cells.rawagg (by decide)) (fun b6 => ?_))
      refine X.act (X.store 0 rfl Tryd.sizeOf35 Is.rfl' Is.rfl' (by exact Cells.agg) (by assumption) (by exact Nat.le_of_ble_eq_true rfl) ?_)
      refine LL.nil (after_code ?_)
      refine LW.seq ?_
      refine X.wcells (ys := vxL v) (putAt_all (by rw [hvl]; rfl)) ?_
      refine LW.region ?_
      refine X.u (LU.moveR Is.rfl') rfl ?_
      refine X.u (LU.loadO 1 rfl ⟨Tryd.sizeOf35, Tryd.isAgg35⟩ Is.rfl' (Part.whole (by assumption))) rfl ?_
      refine X.u (LU.loadO 0 rfl ⟨Tryd.sizeOf35, Tryd.isAgg35⟩ Is.rfl' (Part.whole (by assumption))) rfl ?_
      refine X.act (X.callF (hfs.1) Is.rfl' rfl (hswap (Hm s) Rf [.cells b6 35 (vxL v), .cells b4 35 (vxL a), .cells b2 82 (ptL p)]) (Opds.cons Is.rfl' (Opds.cons Is.rfl' Opds.nil)) ?_)
      rintro r H' ⟨rfl, rfl⟩
      refine LL.nil (after_code ?_)
      refine X.wghost (hswap [.cells b6 35 (vxL v), .cells b4 35 (vxL a), .cells b2 82 (ptL p)] Rf (Hm (F s a v))) ?_
      refine LW.region ?_
      refine X.u (LU.loadO 0 rfl ⟨Tryd.sizeOf35, Tryd.isAgg35⟩ Is.rfl' (Part.whole (by assumption))) rfl ?_
      refine X.act (X.store 1 rfl Tryd.sizeOf35 Is.rfl' Is.rfl' (by exact Cells.agg) (by assumption) (by (simp; omega)) ?_)
      refine LL.nil (after_blk (after_code ?_))
      refine X.wcells (ys := vxL v) (putAt_all (by rw [hvl, hal])) ?_
      refine LW.region ?_
      refine X.u (LU.addN Is.rfl' Is.rfl' (wrap_i64 (by omega) (by omega))) rfl ?_
      refine X.u (LU.moveR Is.rfl') rfl ?_
      refine LL.nil (after_rnd ?_)
      refine X.next ((i + 1, v, F s a v)) rfl (EnvLe.cons (by rfl) (EnvLe.nil)) (Keeps.cons (by exact Eq.trans (b := .raw _) rfl rfl) (Keeps.cons (by exact Eq.trans (b := .raw _) rfl rfl) (Keeps.cons (by exact Eq.trans (b := .raw _) rfl rfl) (Keeps.cons (by exact Eq.trans (b := .sl _ _ _) rfl rfl) (Keeps.cons (by exact Eq.trans (b := .raw _) rfl rfl) (Keeps.nil)))))) (by repeat (first | exact HSub.refl _ | refine HSub.pick 0 rfl ?_ | refine HSub.pick 1 rfl ?_ | refine HSub.drop ?_)) ?_ ?_
      · refine ⟨by omega, hfs.2, ?_⟩
        rw [← hc, drop_at hv]; rfl
      · (simp; omega)
    · try have h3 := of_decide_eq_false h3
      refine LW.exit (exit_code (exit_rnd (exit_blk (after_code ?_))))
      have hfs := hf i s a p.down hi hs
      have hil : i = p.ids.length := by omega
      rw [hil, List.drop_of_length_le (Nat.le_refl _)] at hc
      refine LW.region ?_
      refine X.u (LU.moveR Is.rfl') rfl ?_
      refine X.u (LU.loadO 0 rfl ⟨Tryd.sizeOf35, Tryd.isAgg35⟩ Is.rfl' (Part.whole (by assumption))) rfl ?_
      refine X.u (LU.fieldO Tryd.underlying82 rfl Tryd.sizeOf35 (by decide) Is.rfl') rfl ?_
      refine X.u (LU.weak (LU.loadO 1 rfl ⟨Tryd.sizeOf35, Tryd.isAgg35⟩ Is.rfl' (Part.sub (by (simp; omega)))) (Is.of (y := .agg (vxL p.down)) (congrArg LV.agg (pt_down p)))) rfl ?_
      refine X.act (X.callF (hfs.1) Is.rfl' rfl (hswap (Hm s) Rf [.cells b4 35 (vxL a), .cells b2 82 (ptL p)]) (Opds.cons Is.rfl' (Opds.cons Is.rfl' Opds.nil)) ?_)
      rintro r H' ⟨rfl, rfl⟩
      refine LL.nil (after_end ?_)
      refine X.normal (H' := Hm (F s a p.down)) Res.none (HSub.trans (hswap [.cells b4 35 (vxL a), .cells b2 82 (ptL p)] Rf (Hm (F s a p.down))) (HSub.drop (HSub.drop (HSub.refl _)))) ?_
      have hc2 : F s a p.down = chainF F s0 p.up p.ids p.down := hc
      exact ⟨rfl, by rw [hc2], by rw [← hc2, ← hil]; exact hfs.2⟩
end Go.Proofs.YtolpkeajokjbjaaDoor
namespace Go.Proofs.YtolpkeajokjbjaaDoor
open Go.RowKit Go.L
attribute [local irreducible] LL LW LO LP LA
theorem atG_set (m : At) (a v : Vx) (x : Ln) : atG (setA m a x) v = if a = v then x else atG m v := by
  unfold atG
  rw [look_setA]
  split <;> rfl
theorem step_next (m : At) (a b v : Vx) : (atG (stepA m a b) v).next = (atG m v).next ++ (if a = v then [b] else []) := by
  unfold stepA
  simp only [atG_set]
  by_cases c : b = v
  · subst c
    by_cases d : a = b
    · simp [d]
    · simp [d]
  · by_cases d : a = v
    · simp [c, d]
    · simp [c, d]
theorem step_prev (m : At) (a b v : Vx) : (atG (stepA m a b) v).prev = (atG m v).prev ++ (if b = v then [a] else []) := by
  unfold stepA
  simp only [atG_set]
  by_cases c : b = v
  · subst c
    by_cases d : a = b
    · simp [d]
    · simp [d]
  · by_cases d : a = v
    · simp [c, d]
    · simp [c, d]
/-- No list of a graph is longer than k. -/
def Sz (m : At) (k : Nat) : Prop := ∀ v, (atG m v).next.length ≤ k ∧ (atG m v).prev.length ≤ k
theorem Sz.step {m : At} {k : Nat} (h : Sz m k) (a b : Vx) : Sz (stepA m a b) (k + 1) := fun v => by
  have := h v
  rw [step_next, step_prev, List.length_append, List.length_append]
  constructor
  · split <;> simp <;> omega
  · split <;> simp <;> omega
theorem Sz.mono {m : At} {k l : Nat} (h : Sz m k) (hkl : k ≤ l) : Sz m l := fun v => ⟨Nat.le_trans (h v).1 hkl, Nat.le_trans (h v).2 hkl⟩
abbrev stepV (g : Nat) : Value := .func (.func 29) #[.pointer (some ⟨g, 0, none⟩)] #[]
theorem step_fn (g ma mb : Nat) (n : Int) (m : At) (a b : Vx) (k : Nat) (hz : Sz m k) (hk : k < 900000) : FnCalls Tryd.prog (stepV g) [.agg (vxL a), .agg (vxL b)] [gC g ma mb n, gA ma m] (fun r H' => r = .tup [] ∧ H' = [gC g ma mb n, gA ma (stepA m a b)]) :=
  FnCalls.bound Tryd.func29 rfl rfl (step_calls g ma mb n m a b fun v => ⟨Nat.lt_of_le_of_lt (hz v).1 hk, Nat.lt_of_le_of_lt (hz v).2 hk⟩)
theorem chain_step (g ma mb : Nat) (n : Int) (m : At) (p : Pt) (k : Nat) (hz : Sz m k) (hl : p.ids.length < 400000) (hk : k < 400000) : LCalls Tryd.prog 37 [ptE p, .raw (stepV g)] [gC g ma mb n, gA ma m] (fun r H' => r = .tup [] ∧ H' = [gC g ma mb n, gA ma (chainF stepA m p.up p.ids p.down)] ∧ Sz (chainF stepA m p.up p.ids p.down) (k + (p.ids.length + 1))) :=
  chain_calls (fun m => [gC g ma mb n, gA ma m]) stepA (fun i m => Sz m (k + i)) (stepV g) p m (by omega) (fun i s a b hi hs => ⟨step_fn g ma mb n s a b (k + i) hs (by omega), by rw [← Nat.add_assoc]; exact hs.step a b⟩) hz
abbrev intK : Int → Value := fun n => .int .i64 n
abbrev Ps := List (Int × Pt)
abbrev gP (mb : Nat) (q : Ps) : Atom := .map mb (mp intK (encM ptE q))
theorem ln0_agg : Is (.agg (raws z73.cells.toList)) (lnE ln0) := Is.agg rfl fun i x y hx hy => by
  match i, hx, hy with
  | 0, hx, hy => cases hx; cases hy; exact Is.rfl'
  | 1, hx, hy => cases hx; cases hy; exact (Is.nil 32).trans Is.unk
  | 2, hx, hy => cases hx; cases hy; exact Is.rfl'
  | 3, hx, hy => cases hx; cases hy; exact (Is.nil 33).trans Is.unk
  | 4, hx, hy => cases hx; cases hy; exact (Is.nil 33).trans Is.unk
def at0 : At := [(topV, ln0), (botV, ln0)]
theorem at0_set : setA (setA [] topV ln0) botV ln0 = at0 := by
  show (if topV = botV then (botV, ln0) :: [] else (topV, ln0) :: setA [] botV ln0) = _
  rw [if_neg (by decide +kernel)]
  rfl
theorem at0_sz : Sz at0 0 := fun v => by
  have : at0 = setA (setA [] topV ln0) botV ln0 := at0_set.symm
  rw [this, atG_set, atG_set]
  split
  · exact ⟨Nat.le_refl _, Nat.le_refl _⟩
  · split
    · exact ⟨Nat.le_refl _, Nat.le_refl _⟩
    · exact ⟨Nat.le_refl _, Nat.le_refl _⟩
theorem at1_bot : Is ((lookM (encM lnE [(topV, ln0)]) botV).getD (.raw z73)) (lnE ln0) := by
  have h := at_is [(topV, ln0)] botV
  have e : atG [(topV, ln0)] botV = ln0 := by
    unfold atG lookA
    split <;> rfl
  rwa [e] at h
set_option maxHeartbeats 1000000 in
set_option maxRecDepth 100000 in
theorem new_calls : LCalls Tryd.prog 9 [] [kb] (fun r H' => ∃ g ma mb, r = pt g ∧ H' = [gC g ma mb 0, gA ma (stepA at0 topV botV), gP mb [], kb]) := by
  have hbl := vxL_len botV
  have htl := vxL_len topV
  refine LCalls.of Tryd.func9 rfl Tryd.ntmps9 Tryd.results9 rfl (fun Rf => ?_)
  refine LW.seq ?_
  refine LW.region ?_
  refine X.u (LU.assignR Is.rfl') rfl ?_
  refine LL.nil (after_code ?_)
  refine LW.seq ?_
  refine LW.region ?_
  refine X.act (LO.makeMap (st := ⟨_, _, _⟩) rfl (fun b2 => ?_))
  refine X.act (LO.makeMap (st := ⟨_, _, _⟩) rfl (fun b3 => ?_))
  refine X.u (LU.build (places := #[(0, 1), (1, 1), (2, 1)]) Tryd.underlying68 Tryd.zeroValue68 (ones rfl) (by intro w; simp [Tryd.sizeOf3, Tryd.sizeOf65, Tryd.sizeOf66]) (Parts.cons Is.rfl' (by exact Cells.raw rfl) (Parts.cons Is.rfl' (by exact Cells.raw rfl) Parts.nil)) rfl) rfl ?_
  refine X.act (X.box rfl Is.rfl' (by exact Cells.agg) (fun b5 => ?_))
  refine X.u (LU.assignR Is.rfl') rfl ?_
  refine LL.nil (after_code ?_)
  refine LW.seq ?_
  refine X.wghost (H' := gC b5 b2 b3 0 :: gA b2 [] :: gP b3 [] :: kb :: Rf) (by repeat (first | exact HSub.refl _ | refine HSub.pick 0 rfl ?_ | refine HSub.pick 1 rfl ?_)) ?_
  refine LW.invB (m := 18) (γ := Nat × Nat × Nat × Nat) [(0, 6), (1, 7), (2, 8), (3, 9), (4, 10), (5, 11), (6, 12), (7, 13), (8, 14), (9, 15), (10, 16), (11, 17), (12, 18), (13, 19), (15, 20), (16, 21)] (fun g_ d => match g_ with | ⟨s1, q1, s2, q2⟩ => match d with | 6 => pt b5 | 7 => pt b5 | 8 => pt b5 | 9 => .raw (.map (some b2)) | 10 => .agg (vxL topV) | 11 => pt b5 | 12 => pt b5 | 13 => pt b5 | 14 => .raw (.map (some b2)) | 15 => .agg (vxL botV) | 16 => lnE ln0 | 17 => lnE ln0 | 18 => .tup [lnE ln0, i64 (s1 : Nat)] | 19 => i64 (q1 : Nat) | 20 => .tup [lnE ln0, i64 (s2 : Nat)] | 21 => i64 (q2 : Nat) | _ => .any) (fun g_ f => match g_ with | ⟨s1, q1, s2, q2⟩ => cond (f 17) (.map b2 (mp vxV (setM (encM lnE [(topV, ln0)]) botV (lnE ln0)))) (cond (f 15) (.mape b2 (mp vxV (entM (encM lnE [(topV, ln0)]) botV (.raw z73))) (entI (encM lnE [(topV, ln0)]) botV) (cond (f 16) q2 s2)) (cond (f 14) (gA b2 [(topV, ln0)]) (cond (f 12) (.mape b2 (mp vxV (entM (encM lnE []) topV (.raw z73))) (entI (encM lnE []) topV) (cond (f 13) q1 s1)) (gA b2 [])))) :: gC b5 b2 b3 0 :: gP b3 [] :: kb :: Rf) (0, 0, 0, 0) rfl (by kernel_rfl) rfl rfl ((by repeat (first | exact HSub.refl _ | refine HSub.pick 1 rfl ?_))) ?_ ?_
  · intro i hi f g_ hfi hdir hdown
    obtain ⟨s1, q1, s2, q2⟩ := g_
    have hc : i = 0 ∨ i = 1 ∨ i = 2 ∨ i = 3 ∨ i = 4 ∨ i = 5 ∨ i = 6 ∨ i = 7 ∨ i = 8 ∨ i = 9 ∨ i = 10 ∨ i = 11 ∨ i = 12 ∨ i = 13 ∨ i = 14 ∨ i = 15 ∨ i = 16 ∨ i = 17 := by omega
    rcases hc with rfl | rfl | rfl | rfl | rfl | rfl | rfl | rfl | rfl | rfl | rfl | rfl | rfl | rfl | rfl | rfl | rfl | rfl
    · refine ⟨_, rfl, ?_⟩
      refine A.u (LU.moveR Is.rfl') rfl ?_
      refine ⟨⟨s1, q1, s2, q2⟩, Weaker.mk' ?_ (HSub.refl _)⟩
      refine env_back0 (envS_hit (sl := [(0, 6), (1, 7), (2, 8), (3, 9), (4, 10), (5, 11), (6, 12), (7, 13), (8, 14), (9, 15), (10, 16), (11, 17), (12, 18), (13, 19), (15, 20), (16, 21)]) (j := 0) (d := 6) rfl (fun _ _ h => h))  (envS_next ?_)
      · intro p hp hne; simp only [List.mem_cons, List.not_mem_nil, or_false] at hp; rcases hp with rfl | rfl | rfl | rfl | rfl | rfl | rfl | rfl | rfl | rfl | rfl | rfl | rfl | rfl | rfl | rfl <;> first | exact absurd rfl hne | exact ⟨rfl, rfl⟩
    · have d0 := hdir 0 (List.mem_of_elem_eq_true (by kernel_rfl))
      refine ⟨_, rfl, ?_⟩
      refine LP.weak (t := 6) (v := pt b5) (envS_is (j := 0) rfl d0) ?_
      refine A.u (LU.nilCheck Is.rfl') rfl ?_
      refine ⟨⟨s1, q1, s2, q2⟩, Weaker.mk' ?_ (HSub.refl _)⟩
      refine env_back1 (envS_hit (sl := [(0, 6), (1, 7), (2, 8), (3, 9), (4, 10), (5, 11), (6, 12), (7, 13), (8, 14), (9, 15), (10, 16), (11, 17), (12, 18), (13, 19), (15, 20), (16, 21)]) (j := 1) (d := 7) rfl (fun _ _ h => h)) (envS_hit (sl := [(0, 6), (1, 7), (2, 8), (3, 9), (4, 10), (5, 11), (6, 12), (7, 13), (8, 14), (9, 15), (10, 16), (11, 17), (12, 18), (13, 19), (15, 20), (16, 21)]) (j := 0) (d := 6) rfl (fun _ _ h => h)) (envS_next ?_)
      · intro p hp hne; simp only [List.mem_cons, List.not_mem_nil, or_false] at hp; rcases hp with rfl | rfl | rfl | rfl | rfl | rfl | rfl | rfl | rfl | rfl | rfl | rfl | rfl | rfl | rfl | rfl <;> first | exact absurd rfl hne | exact ⟨rfl, rfl⟩
    · have d1 := hdir 1 (List.mem_of_elem_eq_true (by kernel_rfl))
      refine ⟨_, rfl, ?_⟩
      refine LP.weak (t := 7) (v := pt b5) (envS_is (j := 1) rfl d1) ?_
      refine A.u (LU.fieldO Tryd.underlying68 rfl Tryd.sizeOf65 (by decide) Is.rfl') rfl ?_
      refine ⟨⟨s1, q1, s2, q2⟩, Weaker.mk' ?_ (HSub.refl _)⟩
      refine env_back1 (envS_hit (sl := [(0, 6), (1, 7), (2, 8), (3, 9), (4, 10), (5, 11), (6, 12), (7, 13), (8, 14), (9, 15), (10, 16), (11, 17), (12, 18), (13, 19), (15, 20), (16, 21)]) (j := 2) (d := 8) rfl (fun _ _ h => h)) (envS_hit (sl := [(0, 6), (1, 7), (2, 8), (3, 9), (4, 10), (5, 11), (6, 12), (7, 13), (8, 14), (9, 15), (10, 16), (11, 17), (12, 18), (13, 19), (15, 20), (16, 21)]) (j := 1) (d := 7) rfl (fun _ _ h => h)) (envS_next ?_)
      · intro p hp hne; simp only [List.mem_cons, List.not_mem_nil, or_false] at hp; rcases hp with rfl | rfl | rfl | rfl | rfl | rfl | rfl | rfl | rfl | rfl | rfl | rfl | rfl | rfl | rfl | rfl <;> first | exact absurd rfl hne | exact ⟨rfl, rfl⟩
    · have d2 := hdir 2 (List.mem_of_elem_eq_true (by kernel_rfl))
      refine ⟨_, rfl, ?_⟩
      refine LP.weak (t := 8) (v := pt b5) (envS_is (j := 2) rfl d2) ?_
      refine A.u (LU.loadO 1 rfl ⟨Tryd.sizeOf65, Tryd.isAgg65⟩ Is.rfl' (Part.one rfl)) rfl ?_
      refine ⟨⟨s1, q1, s2, q2⟩, Weaker.mk' ?_ (HSub.refl _)⟩
      refine env_back1 (envS_hit (sl := [(0, 6), (1, 7), (2, 8), (3, 9), (4, 10), (5, 11), (6, 12), (7, 13), (8, 14), (9, 15), (10, 16), (11, 17), (12, 18), (13, 19), (15, 20), (16, 21)]) (j := 3) (d := 9) rfl (fun _ _ h => h)) (envS_hit (sl := [(0, 6), (1, 7), (2, 8), (3, 9), (4, 10), (5, 11), (6, 12), (7, 13), (8, 14), (9, 15), (10, 16), (11, 17), (12, 18), (13, 19), (15, 20), (16, 21)]) (j := 2) (d := 8) rfl (fun _ _ h => h)) (envS_next ?_)
      · intro p hp hne; simp only [List.mem_cons, List.not_mem_nil, or_false] at hp; rcases hp with rfl | rfl | rfl | rfl | rfl | rfl | rfl | rfl | rfl | rfl | rfl | rfl | rfl | rfl | rfl | rfl <;> first | exact absurd rfl hne | exact ⟨rfl, rfl⟩
    · refine ⟨_, rfl, ?_⟩
      refine A.u (LU.weak (LU.build (places := #[(0, 32), (32, 1)]) Tryd.underlying35 Tryd.zeroValue35 (ones rfl) (by intro w; simp [Tryd.sizeOf3, Tryd.sizeOf31]) Parts.nil rfl) (Is.of (y := .agg (vxL topV)) (rfl))) rfl ?_
      refine ⟨⟨s1, q1, s2, q2⟩, Weaker.mk' ?_ (HSub.refl _)⟩
      refine env_back0 (envS_hit (sl := [(0, 6), (1, 7), (2, 8), (3, 9), (4, 10), (5, 11), (6, 12), (7, 13), (8, 14), (9, 15), (10, 16), (11, 17), (12, 18), (13, 19), (15, 20), (16, 21)]) (j := 4) (d := 10) rfl (fun _ _ h => h))  (envS_next ?_)
      · intro p hp hne; simp only [List.mem_cons, List.not_mem_nil, or_false] at hp; rcases hp with rfl | rfl | rfl | rfl | rfl | rfl | rfl | rfl | rfl | rfl | rfl | rfl | rfl | rfl | rfl | rfl <;> first | exact absurd rfl hne | exact ⟨rfl, rfl⟩
    · refine ⟨_, rfl, ?_⟩
      refine A.u (LU.moveR Is.rfl') rfl ?_
      refine ⟨⟨s1, q1, s2, q2⟩, Weaker.mk' ?_ (HSub.refl _)⟩
      refine env_back0 (envS_hit (sl := [(0, 6), (1, 7), (2, 8), (3, 9), (4, 10), (5, 11), (6, 12), (7, 13), (8, 14), (9, 15), (10, 16), (11, 17), (12, 18), (13, 19), (15, 20), (16, 21)]) (j := 5) (d := 11) rfl (fun _ _ h => h))  (envS_next ?_)
      · intro p hp hne; simp only [List.mem_cons, List.not_mem_nil, or_false] at hp; rcases hp with rfl | rfl | rfl | rfl | rfl | rfl | rfl | rfl | rfl | rfl | rfl | rfl | rfl | rfl | rfl | rfl <;> first | exact absurd rfl hne | exact ⟨rfl, rfl⟩
    · have d5 := hdir 5 (List.mem_of_elem_eq_true (by kernel_rfl))
      refine ⟨_, rfl, ?_⟩
      refine LP.weak (t := 11) (v := pt b5) (envS_is (j := 5) rfl d5) ?_
      refine A.u (LU.nilCheck Is.rfl') rfl ?_
      refine ⟨⟨s1, q1, s2, q2⟩, Weaker.mk' ?_ (HSub.refl _)⟩
      refine env_back1 (envS_hit (sl := [(0, 6), (1, 7), (2, 8), (3, 9), (4, 10), (5, 11), (6, 12), (7, 13), (8, 14), (9, 15), (10, 16), (11, 17), (12, 18), (13, 19), (15, 20), (16, 21)]) (j := 6) (d := 12) rfl (fun _ _ h => h)) (envS_hit (sl := [(0, 6), (1, 7), (2, 8), (3, 9), (4, 10), (5, 11), (6, 12), (7, 13), (8, 14), (9, 15), (10, 16), (11, 17), (12, 18), (13, 19), (15, 20), (16, 21)]) (j := 5) (d := 11) rfl (fun _ _ h => h)) (envS_next ?_)
      · intro p hp hne; simp only [List.mem_cons, List.not_mem_nil, or_false] at hp; rcases hp with rfl | rfl | rfl | rfl | rfl | rfl | rfl | rfl | rfl | rfl | rfl | rfl | rfl | rfl | rfl | rfl <;> first | exact absurd rfl hne | exact ⟨rfl, rfl⟩
    · have d6 := hdir 6 (List.mem_of_elem_eq_true (by kernel_rfl))
      refine ⟨_, rfl, ?_⟩
      refine LP.weak (t := 12) (v := pt b5) (envS_is (j := 6) rfl d6) ?_
      refine A.u (LU.fieldO Tryd.underlying68 rfl Tryd.sizeOf65 (by decide) Is.rfl') rfl ?_
      refine ⟨⟨s1, q1, s2, q2⟩, Weaker.mk' ?_ (HSub.refl _)⟩
      refine env_back1 (envS_hit (sl := [(0, 6), (1, 7), (2, 8), (3, 9), (4, 10), (5, 11), (6, 12), (7, 13), (8, 14), (9, 15), (10, 16), (11, 17), (12, 18), (13, 19), (15, 20), (16, 21)]) (j := 7) (d := 13) rfl (fun _ _ h => h)) (envS_hit (sl := [(0, 6), (1, 7), (2, 8), (3, 9), (4, 10), (5, 11), (6, 12), (7, 13), (8, 14), (9, 15), (10, 16), (11, 17), (12, 18), (13, 19), (15, 20), (16, 21)]) (j := 6) (d := 12) rfl (fun _ _ h => h)) (envS_next ?_)
      · intro p hp hne; simp only [List.mem_cons, List.not_mem_nil, or_false] at hp; rcases hp with rfl | rfl | rfl | rfl | rfl | rfl | rfl | rfl | rfl | rfl | rfl | rfl | rfl | rfl | rfl | rfl <;> first | exact absurd rfl hne | exact ⟨rfl, rfl⟩
    · have d7 := hdir 7 (List.mem_of_elem_eq_true (by kernel_rfl))
      refine ⟨_, rfl, ?_⟩
      refine LP.weak (t := 13) (v := pt b5) (envS_is (j := 7) rfl d7) ?_
      refine A.u (LU.loadO 1 rfl ⟨Tryd.sizeOf65, Tryd.isAgg65⟩ Is.rfl' (Part.one rfl)) rfl ?_
      refine ⟨⟨s1, q1, s2, q2⟩, Weaker.mk' ?_ (HSub.refl _)⟩
      refine env_back1 (envS_hit (sl := [(0, 6), (1, 7), (2, 8), (3, 9), (4, 10), (5, 11), (6, 12), (7, 13), (8, 14), (9, 15), (10, 16), (11, 17), (12, 18), (13, 19), (15, 20), (16, 21)]) (j := 8) (d := 14) rfl (fun _ _ h => h)) (envS_hit (sl := [(0, 6), (1, 7), (2, 8), (3, 9), (4, 10), (5, 11), (6, 12), (7, 13), (8, 14), (9, 15), (10, 16), (11, 17), (12, 18), (13, 19), (15, 20), (16, 21)]) (j := 7) (d := 13) rfl (fun _ _ h => h)) (envS_next ?_)
      · intro p hp hne; simp only [List.mem_cons, List.not_mem_nil, or_false] at hp; rcases hp with rfl | rfl | rfl | rfl | rfl | rfl | rfl | rfl | rfl | rfl | rfl | rfl | rfl | rfl | rfl | rfl <;> first | exact absurd rfl hne | exact ⟨rfl, rfl⟩
    · refine ⟨_, rfl, ?_⟩
      refine A.u (LU.loadK 3 rfl ⟨Tryd.sizeOf35, Tryd.isAgg35⟩ Is.rfl' (by decide) (by decide) (Part.whole (by (simp; done)))) rfl ?_
      refine ⟨⟨s1, q1, s2, q2⟩, Weaker.mk' ?_ (HSub.refl _)⟩
      refine env_back0 (envS_hit (sl := [(0, 6), (1, 7), (2, 8), (3, 9), (4, 10), (5, 11), (6, 12), (7, 13), (8, 14), (9, 15), (10, 16), (11, 17), (12, 18), (13, 19), (15, 20), (16, 21)]) (j := 9) (d := 15) rfl (fun _ _ h => h))  (envS_next ?_)
      · intro p hp hne; simp only [List.mem_cons, List.not_mem_nil, or_false] at hp; rcases hp with rfl | rfl | rfl | rfl | rfl | rfl | rfl | rfl | rfl | rfl | rfl | rfl | rfl | rfl | rfl | rfl <;> first | exact absurd rfl hne | exact ⟨rfl, rfl⟩
    · refine ⟨_, rfl, ?_⟩
      refine A.u (LU.weak (LU.build (places := #[(0, 1), (1, 1), (2, 1), (3, 1), (4, 1)]) Tryd.underlying73 Tryd.zeroValue73 (ones rfl) (by intro w; simp [Tryd.sizeOf26, Tryd.sizeOf3, Tryd.sizeOf71, Tryd.sizeOf9]) Parts.nil rfl) (ln0_agg)) rfl ?_
      refine ⟨⟨s1, q1, s2, q2⟩, Weaker.mk' ?_ (HSub.refl _)⟩
      refine env_back0 (envS_hit (sl := [(0, 6), (1, 7), (2, 8), (3, 9), (4, 10), (5, 11), (6, 12), (7, 13), (8, 14), (9, 15), (10, 16), (11, 17), (12, 18), (13, 19), (15, 20), (16, 21)]) (j := 10) (d := 16) rfl (fun _ _ h => h))  (envS_next ?_)
      · intro p hp hne; simp only [List.mem_cons, List.not_mem_nil, or_false] at hp; rcases hp with rfl | rfl | rfl | rfl | rfl | rfl | rfl | rfl | rfl | rfl | rfl | rfl | rfl | rfl | rfl | rfl <;> first | exact absurd rfl hne | exact ⟨rfl, rfl⟩
    · refine ⟨_, rfl, ?_⟩
      refine A.u (LU.weak (LU.build (places := #[(0, 1), (1, 1), (2, 1), (3, 1), (4, 1)]) Tryd.underlying73 Tryd.zeroValue73 (ones rfl) (by intro w; simp [Tryd.sizeOf26, Tryd.sizeOf3, Tryd.sizeOf71, Tryd.sizeOf9]) Parts.nil rfl) (ln0_agg)) rfl ?_
      refine ⟨⟨s1, q1, s2, q2⟩, Weaker.mk' ?_ (HSub.refl _)⟩
      refine env_back0 (envS_hit (sl := [(0, 6), (1, 7), (2, 8), (3, 9), (4, 10), (5, 11), (6, 12), (7, 13), (8, 14), (9, 15), (10, 16), (11, 17), (12, 18), (13, 19), (15, 20), (16, 21)]) (j := 11) (d := 17) rfl (fun _ _ h => h))  (envS_next ?_)
      · intro p hp hne; simp only [List.mem_cons, List.not_mem_nil, or_false] at hp; rcases hp with rfl | rfl | rfl | rfl | rfl | rfl | rfl | rfl | rfl | rfl | rfl | rfl | rfl | rfl | rfl | rfl <;> first | exact absurd rfl hne | exact ⟨rfl, rfl⟩
    · have d3 := hdir 3 (List.mem_of_elem_eq_true (by kernel_rfl))
      have d4 := hdir 4 (List.mem_of_elem_eq_true (by kernel_rfl))
      have d8 := hdir 8 (List.mem_of_elem_eq_true (by kernel_rfl))
      have d9 := hdir 9 (List.mem_of_elem_eq_true (by kernel_rfl))
      refine ⟨_, rfl, ?_⟩
      have h13 : f 13 = false := Bool.eq_false_iff.2 (fun h => by rw [hdown 13 (by omega) h 12 (List.mem_of_elem_eq_true (by kernel_rfl))] at hfi; cases hfi)
      have h14 : f 14 = false := Bool.eq_false_iff.2 (fun h => by rw [hdown 14 (by omega) h 12 (List.mem_of_elem_eq_true (by kernel_rfl))] at hfi; cases hfi)
      have h15 : f 15 = false := Bool.eq_false_iff.2 (fun h => by rw [hdown 15 (by omega) h 14 (List.mem_of_elem_eq_true (by kernel_rfl))] at h14; cases h14)
      have h17 : f 17 = false := Bool.eq_false_iff.2 (fun h => by rw [hdown 17 (by omega) h 15 (List.mem_of_elem_eq_true (by kernel_rfl))] at h15; cases h15)
      refine LP.ghost (H' := gA b2 [] :: gC b5 b2 b3 0 :: gP b3 [] :: kb :: Rf) (by rw [h17, h15, h14, hfi]; exact HSub.refl _) ?_
      refine LP.weak (t := 9) (v := .raw (.map (some b2))) (envS_is (j := 3) rfl d3) ?_
      refine LP.weak (t := 10) (v := .agg (vxL topV)) (envS_is (j := 4) rfl d4) ?_
      refine A.act (LO.mapEntry (st := ⟨_, _, _⟩) 0 rfl (KeyOk.vx vxty) rfl Tryd.underlying65 Tryd.zeroValue73 Is.rfl' (by exact Is.vx _) (fun s18 => ?_))
      refine ⟨(s18, q1, s2, q2), Weaker.mk' ?_ (by show L.HSub _ (cond (f 17) (.map b2 (mp vxV (setM (encM lnE [(topV, ln0)]) botV (lnE ln0)))) (cond (f 15) (.mape b2 (mp vxV (entM (encM lnE [(topV, ln0)]) botV (.raw z73))) (entI (encM lnE [(topV, ln0)]) botV) (cond (f 16) q2 s2)) (cond (f 14) (gA b2 [(topV, ln0)]) (cond true (.mape b2 (mp vxV (entM (encM lnE []) topV (.raw z73))) (entI (encM lnE []) topV) (cond (f 13) q1 s18)) (gA b2 [])))) :: gC b5 b2 b3 0 :: gP b3 [] :: kb :: Rf); rw [h17, h15, h14, h13]; exact HSub.refl _)⟩
      refine env_back2 (envS_hit (sl := [(0, 6), (1, 7), (2, 8), (3, 9), (4, 10), (5, 11), (6, 12), (7, 13), (8, 14), (9, 15), (10, 16), (11, 17), (12, 18), (13, 19), (15, 20), (16, 21)]) (j := 12) (d := 18) rfl (is_tup2 (at_is [] topV) Is.rfl')) (envS_hit (sl := [(0, 6), (1, 7), (2, 8), (3, 9), (4, 10), (5, 11), (6, 12), (7, 13), (8, 14), (9, 15), (10, 16), (11, 17), (12, 18), (13, 19), (15, 20), (16, 21)]) (j := 4) (d := 10) rfl (fun _ _ h => h)) (envS_hit (sl := [(0, 6), (1, 7), (2, 8), (3, 9), (4, 10), (5, 11), (6, 12), (7, 13), (8, 14), (9, 15), (10, 16), (11, 17), (12, 18), (13, 19), (15, 20), (16, 21)]) (j := 3) (d := 9) rfl (fun _ _ h => h)) (envS_next ?_)
      · intro p hp hne; simp only [List.mem_cons, List.not_mem_nil, or_false] at hp; rcases hp with rfl | rfl | rfl | rfl | rfl | rfl | rfl | rfl | rfl | rfl | rfl | rfl | rfl | rfl | rfl | rfl <;> first | exact absurd rfl hne | exact ⟨rfl, rfl⟩
    · have d12 := hdir 12 (List.mem_of_elem_eq_true (by kernel_rfl))
      refine ⟨_, rfl, ?_⟩
      refine LP.weak (t := 18) (v := .tup [lnE ln0, i64 (s1 : Nat)]) (envS_is (j := 12) rfl d12) ?_
      refine A.u (LU.extract Is.rfl' rfl) rfl ?_
      refine ⟨(s1, s1, s2, q2), Weaker.mk' ?_ (by show L.HSub (cond (f 17) (.map b2 (mp vxV (setM (encM lnE [(topV, ln0)]) botV (lnE ln0)))) (cond (f 15) (.mape b2 (mp vxV (entM (encM lnE [(topV, ln0)]) botV (.raw z73))) (entI (encM lnE [(topV, ln0)]) botV) (cond (f 16) q2 s2)) (cond (f 14) (gA b2 [(topV, ln0)]) (cond (f 12) (.mape b2 (mp vxV (entM (encM lnE []) topV (.raw z73))) (entI (encM lnE []) topV) (cond (f 13) q1 s1)) (gA b2 [])))) :: gC b5 b2 b3 0 :: gP b3 [] :: kb :: Rf) (cond (f 17) (.map b2 (mp vxV (setM (encM lnE [(topV, ln0)]) botV (lnE ln0)))) (cond (f 15) (.mape b2 (mp vxV (entM (encM lnE [(topV, ln0)]) botV (.raw z73))) (entI (encM lnE [(topV, ln0)]) botV) (cond (f 16) q2 s2)) (cond (f 14) (gA b2 [(topV, ln0)]) (cond (f 12) (.mape b2 (mp vxV (entM (encM lnE []) topV (.raw z73))) (entI (encM lnE []) topV) (s1)) (gA b2 [])))) :: gC b5 b2 b3 0 :: gP b3 [] :: kb :: Rf); rw [hfi]; exact HSub.refl _)⟩
      refine env_back1 (envS_hit (sl := [(0, 6), (1, 7), (2, 8), (3, 9), (4, 10), (5, 11), (6, 12), (7, 13), (8, 14), (9, 15), (10, 16), (11, 17), (12, 18), (13, 19), (15, 20), (16, 21)]) (j := 13) (d := 19) rfl (fun _ _ h => h)) (envS_hit (sl := [(0, 6), (1, 7), (2, 8), (3, 9), (4, 10), (5, 11), (6, 12), (7, 13), (8, 14), (9, 15), (10, 16), (11, 17), (12, 18), (13, 19), (15, 20), (16, 21)]) (j := 12) (d := 18) rfl (fun _ _ h => h)) (envS_next ?_)
      · intro p hp hne; simp only [List.mem_cons, List.not_mem_nil, or_false] at hp; rcases hp with rfl | rfl | rfl | rfl | rfl | rfl | rfl | rfl | rfl | rfl | rfl | rfl | rfl | rfl | rfl | rfl <;> first | exact absurd rfl hne | exact ⟨rfl, rfl⟩
    · have d0 := hdir 0 (List.mem_of_elem_eq_true (by kernel_rfl))
      have d1 := hdir 1 (List.mem_of_elem_eq_true (by kernel_rfl))
      have d2 := hdir 2 (List.mem_of_elem_eq_true (by kernel_rfl))
      have d3 := hdir 3 (List.mem_of_elem_eq_true (by kernel_rfl))
      have d4 := hdir 4 (List.mem_of_elem_eq_true (by kernel_rfl))
      have d8 := hdir 8 (List.mem_of_elem_eq_true (by kernel_rfl))
      have d9 := hdir 9 (List.mem_of_elem_eq_true (by kernel_rfl))
      have d10 := hdir 10 (List.mem_of_elem_eq_true (by kernel_rfl))
      have d12 := hdir 12 (List.mem_of_elem_eq_true (by kernel_rfl))
      have d13 := hdir 13 (List.mem_of_elem_eq_true (by kernel_rfl))
      refine ⟨_, rfl, ?_⟩
      have h12 : f 12 = true := hdir 12 (List.mem_of_elem_eq_true (by kernel_rfl))
      have h13 : f 13 = true := hdir 13 (List.mem_of_elem_eq_true (by kernel_rfl))
      have h15 : f 15 = false := Bool.eq_false_iff.2 (fun h => by rw [hdown 15 (by omega) h 14 (List.mem_of_elem_eq_true (by kernel_rfl))] at hfi; cases hfi)
      have h17 : f 17 = false := Bool.eq_false_iff.2 (fun h => by rw [hdown 17 (by omega) h 15 (List.mem_of_elem_eq_true (by kernel_rfl))] at h15; cases h15)
      refine LP.ghost (H' := .mape b2 (mp vxV (entM (encM lnE []) topV (.raw z73))) (entI (encM lnE []) topV) (q1) :: gC b5 b2 b3 0 :: gP b3 [] :: kb :: Rf) (by rw [h17, h15, hfi, h12, h13]; exact HSub.refl _) ?_
      refine LP.weak (t := 9) (v := .raw (.map (some b2))) (envS_is (j := 3) rfl d3) ?_
      refine LP.weak (t := 16) (v := lnE ln0) (envS_is (j := 10) rfl d10) ?_
      refine LP.weak (t := 19) (v := i64 (q1 : Nat)) (envS_is (j := 13) rfl d13) ?_
      refine A.act (X.entryStore 0 rfl Is.rfl' Is.rfl' Is.rfl' ?_)
      refine ⟨(s1, q1, s2, q2), Weaker.mk' ?_ (by show L.HSub _ (cond (f 17) (.map b2 (mp vxV (setM (encM lnE [(topV, ln0)]) botV (lnE ln0)))) (cond (f 15) (.mape b2 (mp vxV (entM (encM lnE [(topV, ln0)]) botV (.raw z73))) (entI (encM lnE [(topV, ln0)]) botV) (cond (f 16) q2 s2)) (cond true (gA b2 [(topV, ln0)]) (cond (f 12) (.mape b2 (mp vxV (entM (encM lnE []) topV (.raw z73))) (entI (encM lnE []) topV) (cond (f 13) q1 s1)) (gA b2 [])))) :: gC b5 b2 b3 0 :: gP b3 [] :: kb :: Rf); rw [h17, h15]; exact HSub.refl _)⟩
      refine env_back2 (envS_hit (sl := [(0, 6), (1, 7), (2, 8), (3, 9), (4, 10), (5, 11), (6, 12), (7, 13), (8, 14), (9, 15), (10, 16), (11, 17), (12, 18), (13, 19), (15, 20), (16, 21)]) (j := 13) (d := 19) rfl (fun _ _ h => h)) (envS_hit (sl := [(0, 6), (1, 7), (2, 8), (3, 9), (4, 10), (5, 11), (6, 12), (7, 13), (8, 14), (9, 15), (10, 16), (11, 17), (12, 18), (13, 19), (15, 20), (16, 21)]) (j := 10) (d := 16) rfl (fun _ _ h => h)) (envS_hit (sl := [(0, 6), (1, 7), (2, 8), (3, 9), (4, 10), (5, 11), (6, 12), (7, 13), (8, 14), (9, 15), (10, 16), (11, 17), (12, 18), (13, 19), (15, 20), (16, 21)]) (j := 3) (d := 9) rfl (fun _ _ h => h)) (envS_next ?_)
      · intro p hp hne; simp only [List.mem_cons, List.not_mem_nil, or_false] at hp; rcases hp with rfl | rfl | rfl | rfl | rfl | rfl | rfl | rfl | rfl | rfl | rfl | rfl | rfl | rfl | rfl | rfl <;> first | exact absurd rfl hne | exact ⟨rfl, rfl⟩
    · have d0 := hdir 0 (List.mem_of_elem_eq_true (by kernel_rfl))
      have d1 := hdir 1 (List.mem_of_elem_eq_true (by kernel_rfl))
      have d2 := hdir 2 (List.mem_of_elem_eq_true (by kernel_rfl))
      have d3 := hdir 3 (List.mem_of_elem_eq_true (by kernel_rfl))
      have d4 := hdir 4 (List.mem_of_elem_eq_true (by kernel_rfl))
      have d8 := hdir 8 (List.mem_of_elem_eq_true (by kernel_rfl))
      have d9 := hdir 9 (List.mem_of_elem_eq_true (by kernel_rfl))
      have d10 := hdir 10 (List.mem_of_elem_eq_true (by kernel_rfl))
      have d12 := hdir 12 (List.mem_of_elem_eq_true (by kernel_rfl))
      have d13 := hdir 13 (List.mem_of_elem_eq_true (by kernel_rfl))
      have d14 := hdir 14 (List.mem_of_elem_eq_true (by kernel_rfl))
      refine ⟨_, rfl, ?_⟩
      have h14 : f 14 = true := hdir 14 (List.mem_of_elem_eq_true (by kernel_rfl))
      have h16 : f 16 = false := Bool.eq_false_iff.2 (fun h => by rw [hdown 16 (by omega) h 15 (List.mem_of_elem_eq_true (by kernel_rfl))] at hfi; cases hfi)
      have h17 : f 17 = false := Bool.eq_false_iff.2 (fun h => by rw [hdown 17 (by omega) h 15 (List.mem_of_elem_eq_true (by kernel_rfl))] at hfi; cases hfi)
      refine LP.ghost (H' := gA b2 [(topV, ln0)] :: gC b5 b2 b3 0 :: gP b3 [] :: kb :: Rf) (by rw [h17, hfi, h14]; exact HSub.refl _) ?_
      refine LP.weak (t := 14) (v := .raw (.map (some b2))) (envS_is (j := 8) rfl d8) ?_
      refine LP.weak (t := 15) (v := .agg (vxL botV)) (envS_is (j := 9) rfl d9) ?_
      refine A.act (LO.mapEntry (st := ⟨_, _, _⟩) 0 rfl (KeyOk.vx vxty) rfl Tryd.underlying65 Tryd.zeroValue73 Is.rfl' (by exact Is.vx _) (fun s20 => ?_))
      refine ⟨(s1, q1, s20, q2), Weaker.mk' ?_ (by show L.HSub _ (cond (f 17) (.map b2 (mp vxV (setM (encM lnE [(topV, ln0)]) botV (lnE ln0)))) (cond true (.mape b2 (mp vxV (entM (encM lnE [(topV, ln0)]) botV (.raw z73))) (entI (encM lnE [(topV, ln0)]) botV) (cond (f 16) q2 s20)) (cond (f 14) (gA b2 [(topV, ln0)]) (cond (f 12) (.mape b2 (mp vxV (entM (encM lnE []) topV (.raw z73))) (entI (encM lnE []) topV) (cond (f 13) q1 s1)) (gA b2 [])))) :: gC b5 b2 b3 0 :: gP b3 [] :: kb :: Rf); rw [h17, h16]; exact HSub.refl _)⟩
      refine env_back2 (envS_hit (sl := [(0, 6), (1, 7), (2, 8), (3, 9), (4, 10), (5, 11), (6, 12), (7, 13), (8, 14), (9, 15), (10, 16), (11, 17), (12, 18), (13, 19), (15, 20), (16, 21)]) (j := 15) (d := 20) rfl (is_tup2 at1_bot Is.rfl')) (envS_hit (sl := [(0, 6), (1, 7), (2, 8), (3, 9), (4, 10), (5, 11), (6, 12), (7, 13), (8, 14), (9, 15), (10, 16), (11, 17), (12, 18), (13, 19), (15, 20), (16, 21)]) (j := 9) (d := 15) rfl (fun _ _ h => h)) (envS_hit (sl := [(0, 6), (1, 7), (2, 8), (3, 9), (4, 10), (5, 11), (6, 12), (7, 13), (8, 14), (9, 15), (10, 16), (11, 17), (12, 18), (13, 19), (15, 20), (16, 21)]) (j := 8) (d := 14) rfl (fun _ _ h => h)) (envS_next ?_)
      · intro p hp hne; simp only [List.mem_cons, List.not_mem_nil, or_false] at hp; rcases hp with rfl | rfl | rfl | rfl | rfl | rfl | rfl | rfl | rfl | rfl | rfl | rfl | rfl | rfl | rfl | rfl <;> first | exact absurd rfl hne | exact ⟨rfl, rfl⟩
    · have d15 := hdir 15 (List.mem_of_elem_eq_true (by kernel_rfl))
      refine ⟨_, rfl, ?_⟩
      refine LP.weak (t := 20) (v := .tup [lnE ln0, i64 (s2 : Nat)]) (envS_is (j := 15) rfl d15) ?_
      refine A.u (LU.extract Is.rfl' rfl) rfl ?_
      refine ⟨(s1, q1, s2, s2), Weaker.mk' ?_ (by show L.HSub (cond (f 17) (.map b2 (mp vxV (setM (encM lnE [(topV, ln0)]) botV (lnE ln0)))) (cond (f 15) (.mape b2 (mp vxV (entM (encM lnE [(topV, ln0)]) botV (.raw z73))) (entI (encM lnE [(topV, ln0)]) botV) (cond (f 16) q2 s2)) (cond (f 14) (gA b2 [(topV, ln0)]) (cond (f 12) (.mape b2 (mp vxV (entM (encM lnE []) topV (.raw z73))) (entI (encM lnE []) topV) (cond (f 13) q1 s1)) (gA b2 [])))) :: gC b5 b2 b3 0 :: gP b3 [] :: kb :: Rf) (cond (f 17) (.map b2 (mp vxV (setM (encM lnE [(topV, ln0)]) botV (lnE ln0)))) (cond (f 15) (.mape b2 (mp vxV (entM (encM lnE [(topV, ln0)]) botV (.raw z73))) (entI (encM lnE [(topV, ln0)]) botV) (s2)) (cond (f 14) (gA b2 [(topV, ln0)]) (cond (f 12) (.mape b2 (mp vxV (entM (encM lnE []) topV (.raw z73))) (entI (encM lnE []) topV) (cond (f 13) q1 s1)) (gA b2 [])))) :: gC b5 b2 b3 0 :: gP b3 [] :: kb :: Rf); rw [hfi]; exact HSub.refl _)⟩
      refine env_back1 (envS_hit (sl := [(0, 6), (1, 7), (2, 8), (3, 9), (4, 10), (5, 11), (6, 12), (7, 13), (8, 14), (9, 15), (10, 16), (11, 17), (12, 18), (13, 19), (15, 20), (16, 21)]) (j := 16) (d := 21) rfl (fun _ _ h => h)) (envS_hit (sl := [(0, 6), (1, 7), (2, 8), (3, 9), (4, 10), (5, 11), (6, 12), (7, 13), (8, 14), (9, 15), (10, 16), (11, 17), (12, 18), (13, 19), (15, 20), (16, 21)]) (j := 15) (d := 20) rfl (fun _ _ h => h)) (envS_next ?_)
      · intro p hp hne; simp only [List.mem_cons, List.not_mem_nil, or_false] at hp; rcases hp with rfl | rfl | rfl | rfl | rfl | rfl | rfl | rfl | rfl | rfl | rfl | rfl | rfl | rfl | rfl | rfl <;> first | exact absurd rfl hne | exact ⟨rfl, rfl⟩
    · have d0 := hdir 0 (List.mem_of_elem_eq_true (by kernel_rfl))
      have d1 := hdir 1 (List.mem_of_elem_eq_true (by kernel_rfl))
      have d2 := hdir 2 (List.mem_of_elem_eq_true (by kernel_rfl))
      have d3 := hdir 3 (List.mem_of_elem_eq_true (by kernel_rfl))
      have d4 := hdir 4 (List.mem_of_elem_eq_true (by kernel_rfl))
      have d5 := hdir 5 (List.mem_of_elem_eq_true (by kernel_rfl))
      have d6 := hdir 6 (List.mem_of_elem_eq_true (by kernel_rfl))
      have d7 := hdir 7 (List.mem_of_elem_eq_true (by kernel_rfl))
      have d8 := hdir 8 (List.mem_of_elem_eq_true (by kernel_rfl))
      have d9 := hdir 9 (List.mem_of_elem_eq_true (by kernel_rfl))
      have d10 := hdir 10 (List.mem_of_elem_eq_true (by kernel_rfl))
      have d11 := hdir 11 (List.mem_of_elem_eq_true (by kernel_rfl))
      have d12 := hdir 12 (List.mem_of_elem_eq_true (by kernel_rfl))
      have d13 := hdir 13 (List.mem_of_elem_eq_true (by kernel_rfl))
      have d14 := hdir 14 (List.mem_of_elem_eq_true (by kernel_rfl))
      have d15 := hdir 15 (List.mem_of_elem_eq_true (by kernel_rfl))
      have d16 := hdir 16 (List.mem_of_elem_eq_true (by kernel_rfl))
      refine ⟨_, rfl, ?_⟩
      have h15 : f 15 = true := hdir 15 (List.mem_of_elem_eq_true (by kernel_rfl))
      have h16 : f 16 = true := hdir 16 (List.mem_of_elem_eq_true (by kernel_rfl))
      refine LP.ghost (H' := .mape b2 (mp vxV (entM (encM lnE [(topV, ln0)]) botV (.raw z73))) (entI (encM lnE [(topV, ln0)]) botV) (q2) :: gC b5 b2 b3 0 :: gP b3 [] :: kb :: Rf) (by rw [hfi, h15, h16]; exact HSub.refl _) ?_
      refine LP.weak (t := 14) (v := .raw (.map (some b2))) (envS_is (j := 8) rfl d8) ?_
      refine LP.weak (t := 17) (v := lnE ln0) (envS_is (j := 11) rfl d11) ?_
      refine LP.weak (t := 21) (v := i64 (q2 : Nat)) (envS_is (j := 16) rfl d16) ?_
      refine A.act (X.entryStore 0 rfl Is.rfl' Is.rfl' Is.rfl' ?_)
      refine ⟨(s1, q1, s2, q2), Weaker.mk' ?_ (HSub.refl _)⟩
      refine env_back2 (envS_hit (sl := [(0, 6), (1, 7), (2, 8), (3, 9), (4, 10), (5, 11), (6, 12), (7, 13), (8, 14), (9, 15), (10, 16), (11, 17), (12, 18), (13, 19), (15, 20), (16, 21)]) (j := 16) (d := 21) rfl (fun _ _ h => h)) (envS_hit (sl := [(0, 6), (1, 7), (2, 8), (3, 9), (4, 10), (5, 11), (6, 12), (7, 13), (8, 14), (9, 15), (10, 16), (11, 17), (12, 18), (13, 19), (15, 20), (16, 21)]) (j := 11) (d := 17) rfl (fun _ _ h => h)) (envS_hit (sl := [(0, 6), (1, 7), (2, 8), (3, 9), (4, 10), (5, 11), (6, 12), (7, 13), (8, 14), (9, 15), (10, 16), (11, 17), (12, 18), (13, 19), (15, 20), (16, 21)]) (j := 8) (d := 14) rfl (fun _ _ h => h)) (envS_next ?_)
      · intro p hp hne; simp only [List.mem_cons, List.not_mem_nil, or_false] at hp; rcases hp with rfl | rfl | rfl | rfl | rfl | rfl | rfl | rfl | rfl | rfl | rfl | rfl | rfl | rfl | rfl | rfl <;> first | exact absurd rfl hne | exact ⟨rfl, rfl⟩
  · intro g_ f hf_
    obtain ⟨s1, q1, s2, q2⟩ := g_
    refine X.ghost (H' := .map b2 (mp vxV (setM (encM lnE [(topV, ln0)]) botV (lnE ln0))) :: gC b5 b2 b3 0 :: gP b3 [] :: kb :: Rf) (by show L.HSub (cond (f 17) _ _ :: _) _; rw [hf_ 17 (by omega)]; exact HSub.refl _) ?_
    refine LL.nil (after_code ?_)
    refine LW.seq ?_
    refine X.wghost (H' := kb :: gC b5 b2 b3 0 :: gA b2 at0 :: gP b3 [] :: Rf) (by rw [← at0_set, ← gA_set]; exact (by repeat (first | exact HSub.refl _ | refine HSub.pick 1 rfl ?_ | refine HSub.pick 3 rfl ?_))) ?_
    refine LW.region ?_
    refine X.u (LU.moveR Is.rfl') rfl ?_
    refine X.u (LU.weak (LU.build (places := #[(0, 32), (32, 1)]) Tryd.underlying35 Tryd.zeroValue35 (ones rfl) (by intro w; simp [Tryd.sizeOf3, Tryd.sizeOf31]) Parts.nil rfl) (Is.of (y := .agg (vxL topV)) (rfl))) rfl ?_
    refine X.u (LU.loadK 0 rfl ⟨Tryd.sizeOf35, Tryd.isAgg35⟩ Is.rfl' (by decide) (by decide) (Part.whole (by (simp; done)))) rfl ?_
    refine X.act (X.call (step_calls b5 b2 b3 0 at0 topV botV (fun v => ⟨Nat.lt_of_le_of_lt (at0_sz v).1 (by decide), Nat.lt_of_le_of_lt (at0_sz v).2 (by decide)⟩)) Tryd.func29 rfl rfl rfl (HSub.pick 1 rfl (HSub.pick 1 rfl (HSub.refl _))) (Opds.cons Is.rfl' (Opds.cons Is.rfl' (Opds.cons Is.rfl' Opds.nil))) ?_)
    rintro r H' ⟨rfl, rfl⟩
    refine LL.nil (after_code ?_)
    refine LW.seq ?_
    refine LW.region ?_
    refine X.u (LU.moveR Is.rfl') rfl ?_
    refine X.u (LU.assignR Is.rfl') rfl ?_
    refine LL.nil (after_code ?_)
    refine LW.ret (after_end ?_)
    refine X.ret (H' := [gC b5 b2 b3 0, gA b2 (stepA at0 topV botV), gP b3 [], kb]) (Res.one (by exact IsR rfl)) (by repeat (first | exact HSub.refl _ | refine HSub.pick 0 rfl ?_ | refine HSub.pick 1 rfl ?_)) ?_
    exact ⟨b5, b2, b3, rfl, rfl⟩
end Go.Proofs.YtolpkeajokjbjaaDoor
namespace Go.Proofs.YtolpkeajokjbjaaDoor
open Go.RowKit Go.L
attribute [local irreducible] LL LW LO
set_option maxRecDepth 100000 in
theorem len_calls (g ma mb : Nat) (n : Int) (m : At) (hm : m.length < 1000000) : LCalls Tryd.prog 19 [pt g] [gC g ma mb n, gA ma m] (fun r H' => r = i64 ((m.length : Int) - 2) ∧ H' = [gC g ma mb n, gA ma m]) := by
  refine LCalls.of Tryd.func19 rfl Tryd.ntmps19 Tryd.results19 rfl (fun Rf => ?_)
  refine LW.seq ?_
  refine LW.region ?_
  refine X.u (LU.assignR Is.rfl') rfl ?_
  refine LL.nil (after_code ?_)
  refine LW.seq ?_
  refine LW.seq ?_
  refine LW.region ?_
  refine X.u (LU.moveR Is.rfl') rfl ?_
  refine X.u (LU.call1 0 rfl (none_calls g ma mb n) Tryd.func33 rfl rfl (Opds.cons Is.rfl' Opds.nil)) rfl ?_
  refine LL.nil (after_code ?_)
  refine X.condF rfl ?_ ?_
  · rfl
  refine LW.skip (after_code ?_)
  refine LW.seq ?_
  refine LW.region ?_
  refine X.u (LU.moveR Is.rfl') rfl ?_
  refine X.u (LU.nilCheck Is.rfl') rfl ?_
  refine X.u (LU.fieldO Tryd.underlying68 rfl Tryd.sizeOf65 (by decide) Is.rfl') rfl ?_
  refine X.u (LU.loadO 0 rfl ⟨Tryd.sizeOf65, Tryd.isAgg65⟩ Is.rfl' (Part.one rfl)) rfl ?_
  refine X.u (LU.lenMap 1 rfl Tryd.underlying65 Is.rfl') rfl ?_
  refine X.u (LU.sub Is.rfl' Is.rfl') rfl ?_
  refine X.u (LU.assignR Is.rfl') rfl ?_
  refine LL.nil (after_code ?_)
  refine LW.ret (after_end ?_)
  refine X.ret (H' := [gC g ma mb n, gA ma m]) (Res.one (by exact IsR rfl)) (by repeat (exact HSub.refl _)) ?_
  exact ⟨by simp; exact wrap_i64 (by omega) (by omega), rfl⟩
def wrongB (l : List Vx) : Bool := (!decide l.Nodup || l.any endsB) || decide (l.length = 0)
theorem nodup_snoc {α : Type} {l : List α} {a : α} : (l ++ [a]).Nodup ↔ l.Nodup ∧ a ∉ l := by
  rw [List.nodup_append]
  exact ⟨fun ⟨h1, _, h3⟩ => ⟨h1, fun hm => h3 a hm a (by simp) rfl⟩, fun ⟨h1, h2⟩ => ⟨h1, by simp, fun x hx y hy => by rw [List.mem_singleton.1 hy]; rintro rfl; exact h2 hx⟩⟩
theorem wrong_bad {l : List Vx} {i : Nat} {v : Vx} (hv : l[i]? = some v) (h : (endsB v || decide (v ∈ l.take i)) = true) : wrongB l = true := by
  unfold wrongB
  rcases Bool.or_eq_true _ _ |>.mp h with e | e
  · rw [List.any_eq_true.2 ⟨v, List.mem_of_getElem? hv, e⟩]; simp
  · have : ¬ l.Nodup := fun c => by
      have h2 := (List.take_sublist (i + 1) l).nodup c
      rw [take_snoc hv] at h2
      exact (nodup_snoc.1 h2).2 (of_decide_eq_true e)
    rw [decide_eq_false this]; simp
theorem wrong_end {l : List Vx} (h1 : l.Nodup) (h2 : ∀ v ∈ l, endsB v = false) : wrongB l = decide (l.length = 0) := by
  unfold wrongB
  rw [decide_eq_true h1, List.any_eq_false.2 fun v hv => by rw [h2 v hv]; decide]
  rfl
set_option maxHeartbeats 1000000 in
set_option maxRecDepth 100000 in
theorem wrong_calls (l : List Vx) (k : Cap) (hl : l.length < 1000000) : LCalls Tryd.prog 34 [Vxs l k] [kb] (fun r H' => r = bl (wrongB l) ∧ H' = [kb]) := by
  refine LCalls.of Tryd.func34 rfl Tryd.ntmps34 Tryd.results34 rfl (fun Rf => ?_)
  refine LW.seq ?_
  refine LW.region ?_
  refine X.u (LU.assignR Is.rfl') rfl ?_
  refine LL.nil (after_code ?_)
  refine LW.seq ?_
  refine LW.seq ?_
  refine LW.region ?_
  refine X.u (LU.moveS Is.rfl') rfl ?_
  refine X.u (LU.lenN Tryd.underlying26 Is.rfl' (by (simp only [Option.getD_some, Option.getD_none, byteEls_length, intEls_length, List.length_append, List.length_cons, List.length_nil, List.length_map, List.length_drop, List.length_take, Int.toNat_natCast]; rfl))) rfl ?_
  refine X.u (LU.moveR Is.rfl') rfl ?_
  refine LL.nil (after_code ?_)
  refine LW.block ?_
  refine X.loopK (α := Nat) (fun i => [(7, i64 i)]) [0, 5, 6] (fun i => kb :: Rf) (fun i => i ≤ l.length ∧ (l.take i).Nodup ∧ ∀ v ∈ l.take i, endsB v = false) (fun i => l.length - i) (0) (EnvLe.cons (by rfl) (EnvLe.nil)) (by repeat (exact HSub.refl _)) ?_ ?_
  · exact ⟨Nat.zero_le _, by simp, by simp⟩
  · rintro i hI
    obtain ⟨hi, hn, he⟩ := hI
    refine LW.seq ?_
    refine LW.region ?_
    refine X.u (LU.lss Is.rfl' Is.rfl') rfl ?_
    refine LL.nil (after_code ?_)
    refine LW.seq ?_
    refine X.cond rfl (fun h2 => ?_) (fun h2 => ?_)
    · try have h2 := of_decide_eq_true h2
      refine LW.skip (after_code ?_)
      refine LW.seq ?_
      refine LW.block ?_
      refine LW.seq ?_
      obtain ⟨v, hv⟩ := at_lt (show i < l.length by omega)
      have hvl := vxL_len v
      refine LW.region ?_
      refine X.u (LU.moveR Is.rfl') rfl ?_
      refine X.u (LU.at Tryd.underlying26 ⟨Tryd.sizeOf35, Tryd.isAgg35⟩ Is.rfl' Is.rfl' (by omega) (vxs_at hv) (vx_ne v)) rfl ?_
      refine X.u (LU.weak (LU.load ⟨Tryd.sizeOf35, Tryd.isAgg35⟩ Is.rfl' (by assumption) (Part.whole (by assumption))) (Is.of (y := .agg (vxL v)) (rfl))) rfl ?_
      refine X.act (X.alloc rfl Tryd.zeroValue35 (by exact Cells.rawagg (by decide)) (fun b4 => ?_))
      refine X.u (LU.assignR Is.rfl') rfl ?_
      refine X.act (X.store 0 rfl Tryd.sizeOf35 Is.rfl' Is.rfl' (by exact Cells.agg) (by assumption) (by exact Nat.le_of_ble_eq_true rfl) ?_)
      refine LL.nil (after_code ?_)
      refine LW.seq ?_
      refine X.wcells (ys := vxL v) (putAt_all (by rw [hvl]; rfl)) ?_
      refine X.drawM 9 rfl (by kernel_rfl) rfl ?_
      refine QD.u (LU.loadO 0 rfl ⟨Tryd.sizeOf35, Tryd.isAgg35⟩ Is.rfl' (Part.whole (by assumption))) rfl ?_
      refine QD.u (LU.call1 1 rfl (ends_calls v) Tryd.func53 rfl rfl (Opds.cons Is.rfl' Opds.nil)) rfl ?_
      refine QD.u (LU.moveR Is.rfl') rfl ?_
      refine QD.gF rfl rfl (fun hg => LU.moveS (by exact Is.rfl')) rfl ?_
      refine QD.gF rfl rfl (fun hg => LU.moveR (by exact Is.rfl')) rfl ?_
      refine QD.gF rfl rfl (fun hg => LU.weak (LU.slice (lo := none) (hi := some _) (l := none) (h := some ((i : Nat) : Int)) Tryd.sizeOf35 (by decide) Tryd.underlying26 (by exact Is.whenN hg) trivial ⟨_, (by exact Is.whenN hg)⟩ (by simp) (by simp) (by simp only [Option.getD_some, Option.getD_none, List.length_map]; try omega) .unk (.inl rfl)) (Is.of (y := Vxs (l.take i) .unk) (congrArg (fun z => LV.sl 33 z .unk) (by simp only [Option.getD_some, Option.getD_none, Int.toNat_natCast, Int.toNat_zero, List.drop_zero, Nat.sub_zero, vxs, List.map_take] <;> (try rfl))))) rfl ?_
      refine QD.gF rfl rfl (fun hg => LU.loadO 0 rfl ⟨Tryd.sizeOf35, Tryd.isAgg35⟩ (by exact Is.rfl') (Part.whole (by assumption))) rfl ?_
      refine QD.gF rfl rfl (fun hg => LU.call (contains_calls (l.take i) .unk v (by rw [List.length_take]; omega)) Tryd.func40 rfl rfl (Opds.cons (by exact Is.whenN hg) (Opds.cons (by exact Is.whenN hg) Opds.nil))) rfl ?_
      refine QD.u (LU.pickOr Is.rfl' Is.rfl' (fun hq => (by exact Is.whenN hq))) rfl ?_
      refine QD.nil ?_
      refine LL.nil (after_code ?_)
      refine X.cond rfl (fun h4 => ?_) (fun h4 => ?_)
      · have hw := wrong_bad hv h4
        refine LW.seq ?_
        refine LW.region ?_
        refine X.u (LU.assignR Is.rfl') rfl ?_
        refine LL.nil (after_code ?_)
        refine LW.ret (ret_blk (ret_code (ret_rnd (ret_blk (ret_code (after_end ?_))))))
        refine X.ret (H' := [kb]) (Res.one (by exact IsR rfl)) (by repeat (first | exact HSub.refl _ | refine HSub.pick 1 rfl ?_ | refine HSub.drop ?_)) ?_
        exact ⟨by rw [hw], rfl⟩
      · have h4 : endsB v = false ∧ v ∉ l.take i := by simpa using h4
        have hz0 : (0 : Nat) = 0 := rfl
        refine LW.skip (after_blk (after_code ?_))
        refine LW.region ?_
        refine X.u (LU.addN Is.rfl' Is.rfl' (wrap_i64 (by omega) (by omega))) rfl ?_
        refine X.u (LU.moveR Is.rfl') rfl ?_
        refine LL.nil (after_rnd ?_)
        refine X.next (i + 1) rfl (EnvLe.cons (by rfl) (EnvLe.nil)) (Keeps.cons (by exact Eq.trans (b := .sl _ _ _) rfl rfl) (Keeps.cons (by exact Eq.trans (b := .sl _ _ _) rfl rfl) (Keeps.cons (by exact Eq.trans (b := .raw _) rfl rfl) (Keeps.nil)))) (by repeat (first | exact HSub.refl _ | refine HSub.pick 1 rfl ?_ | refine HSub.drop ?_)) ?_ ?_
        · refine ⟨by omega, ?_, fun y hy => ?_⟩
          · rw [take_snoc hv]; exact nodup_snoc.2 ⟨hn, h4.2⟩
          · rw [take_snoc hv, List.mem_append, List.mem_singleton] at hy
            rcases hy with e | e
            · exact he y e
            · rw [e]; exact h4.1
        · omega
    · try have h2 := of_decide_eq_false h2
      refine LW.exit (exit_code (exit_rnd (exit_blk (after_code ?_))))
      refine LW.seq ?_
      refine LW.region ?_
      refine X.u (LU.moveS Is.rfl') rfl ?_
      refine X.u (LU.lenN Tryd.underlying26 Is.rfl' (by (simp only [Option.getD_some, Option.getD_none, byteEls_length, intEls_length, List.length_append, List.length_cons, List.length_nil, List.length_map, List.length_drop, List.length_take, Int.toNat_natCast]; rfl))) rfl ?_
      refine X.u (LU.eql Is.rfl' Is.rfl') rfl ?_
      refine X.u (LU.assignR Is.rfl') rfl ?_
      refine LL.nil (after_code ?_)
      refine LW.ret (after_end ?_)
      refine X.ret (H' := [kb]) (Res.one (by exact IsR rfl)) (by repeat (exact HSub.refl _)) ?_
      have hil : i = l.length := by omega
      rw [hil, List.take_length] at hn he
      refine ⟨?_, rfl⟩
      rw [wrong_end hn he]
      congr 2
      exact decide_eq_decide.2 ⟨fun c => by omega, fun c => by omega⟩
def fiV (f : Vx → Bool) : List Vx → Int
  | [] => -1
  | a :: l => if f a then 0 else (if fiV f l < 0 then -1 else fiV f l + 1)
theorem fi_none {f : Vx → Bool} : ∀ {l : List Vx}, (∀ x ∈ l, f x = false) → fiV f l = -1
  | [], _ => rfl
  | a :: l, h => by rw [fiV, if_neg (by rw [h a (by simp)]; decide), fi_none (fun x hx => h x (List.mem_cons_of_mem _ hx)), if_pos (by decide)]
theorem fi_at {f : Vx → Bool} : ∀ {l : List Vx} {i : Nat} {x : Vx}, l[i]? = some x → f x = true → (∀ j, j < i → ∀ y, l[j]? = some y → f y = false) → fiV f l = i
  | [], i, x, e, _, _ => by simp at e
  | a :: l, 0, x, e, h, _ => by
    obtain rfl : a = x := by simpa using e
    rw [fiV, if_pos h]; rfl
  | a :: l, i + 1, x, e, h, hf => by
    have := fi_at (l := l) (i := i) (by simpa using e) h (fun j hj y hy => hf (j + 1) (by omega) y (by simpa using hy))
    rw [fiV, if_neg (by rw [hf 0 (by omega) a rfl]; decide), this, if_neg (by omega)]
    omega
theorem fi_any {f : Vx → Bool} {l : List Vx} : decide (0 ≤ fiV f l) = l.any f := by
  have hge : ∀ l : List Vx, -1 ≤ fiV f l := fun l => by
    induction l with
    | nil => exact Int.le_refl _
    | cons a l ih =>
      rw [fiV]
      split
      · omega
      · split <;> omega
  induction l with
  | nil => rfl
  | cons a l ih =>
    rw [fiV, List.any_cons]
    cases h : f a with
    | true => simp
    | false =>
      have := hge l
      rw [if_neg (by decide), Bool.false_or, ← ih]
      refine decide_eq_decide.2 ⟨fun c => ?_, fun c => ?_⟩
      · split at c <;> omega
      · rw [if_neg (by omega)]; omega
set_option maxRecDepth 100000 in
theorem indexF_calls (l : List Vx) (k : Cap) (yv : Value) (f : Vx → Bool) (H : List Atom) (hl : l.length < 1000000) (hf : ∀ v, FnCalls Tryd.prog yv [.agg (vxL v)] H (fun r H' => r = bl (f v) ∧ H = H')) : LCalls Tryd.prog 54 [Vxs l k, .raw yv] H (fun r H' => r = i64 (fiV f l) ∧ H = H') := by
  refine LCalls.of Tryd.func54 rfl Tryd.ntmps54 Tryd.results54 rfl (fun Rf => ?_)
  refine LW.seq ?_
  refine LW.region ?_
  refine X.u (LU.assignR Is.rfl') rfl ?_
  refine LL.nil (after_code ?_)
  refine LW.seq ?_
  refine LW.seq ?_
  refine LW.region ?_
  refine X.u (LU.moveS Is.rfl') rfl ?_
  refine X.u (LU.lenN Tryd.underlying26 Is.rfl' (by (simp only [Option.getD_some, Option.getD_none, byteEls_length, intEls_length, List.length_append, List.length_cons, List.length_nil, List.length_map, List.length_drop, List.length_take, Int.toNat_natCast]; rfl))) rfl ?_
  refine X.u (LU.moveR Is.rfl') rfl ?_
  refine LL.nil (after_code ?_)
  refine LW.block ?_
  refine X.loopK (α := Nat) (fun i => [(8, i64 i)]) [0, 1, 7] (fun i => H ++ Rf) (fun i => i ≤ l.length ∧ ∀ j, j < i → ∀ y, l[j]? = some y → f y = false) (fun i => l.length - i) (0) (EnvLe.cons (by rfl) (EnvLe.nil)) (by repeat (exact HSub.refl _)) ?_ ?_
  · exact ⟨Nat.zero_le _, fun j hj => by omega⟩
  · rintro i hI
    obtain ⟨hi, hfa⟩ := hI
    refine LW.seq ?_
    refine LW.region ?_
    refine X.u (LU.lss Is.rfl' Is.rfl') rfl ?_
    refine LL.nil (after_code ?_)
    refine LW.seq ?_
    refine X.cond rfl (fun h2 => ?_) (fun h2 => ?_)
    · try have h2 := of_decide_eq_true h2
      refine LW.skip (after_code ?_)
      refine LW.seq ?_
      refine LW.block ?_
      refine LW.seq ?_
      refine LW.region ?_
      refine X.u (LU.moveR Is.rfl') rfl ?_
      refine X.u (LU.assignR Is.rfl') rfl ?_
      refine LL.nil (after_code ?_)
      refine LW.seq ?_
      obtain ⟨v, hv⟩ := at_lt (show i < l.length by omega)
      have hfv := hf v
      have hvl := vxL_len v
      refine LW.region ?_
      refine X.u (LU.moveR Is.rfl') rfl ?_
      refine X.u (LU.moveS Is.rfl') rfl ?_
      refine X.u (LU.moveR Is.rfl') rfl ?_
      refine X.u (LU.at Tryd.underlying26 ⟨Tryd.sizeOf35, Tryd.isAgg35⟩ Is.rfl' Is.rfl' (by omega) (vxs_at hv) (vx_ne v)) rfl ?_
      refine X.u (LU.weak (LU.load ⟨Tryd.sizeOf35, Tryd.isAgg35⟩ Is.rfl' (by assumption) (Part.whole (by assumption))) (Is.of (y := .agg (vxL v)) (rfl))) rfl ?_
      refine X.act (X.callF (hfv) Is.rfl' rfl (HSub.refl _) (Opds.cons Is.rfl' Opds.nil) ?_)
      rintro r H' ⟨rfl, rfl⟩
      refine LL.nil (after_code ?_)
      refine X.cond rfl (fun h4 => ?_) (fun h4 => ?_)
      · try have h4 := of_decide_eq_true h4
        refine LW.seq ?_
        refine LW.region ?_
        refine X.u (LU.moveR Is.rfl') rfl ?_
        refine X.u (LU.assignR Is.rfl') rfl ?_
        refine LL.nil (after_code ?_)
        refine LW.ret (ret_blk (ret_code (ret_rnd (ret_blk (ret_code (after_end ?_))))))
        refine X.ret (H' := H) (Res.one (by exact IsR rfl)) (HSub.refl _) ?_
        exact ⟨by rw [fi_at hv h4 hfa], rfl⟩
      · try have h4 := of_decide_eq_false h4
        refine LW.skip (after_blk (after_code ?_))
        refine LW.region ?_
        refine X.u (LU.addN Is.rfl' Is.rfl' (wrap_i64 (by omega) (by omega))) rfl ?_
        refine X.u (LU.moveR Is.rfl') rfl ?_
        refine LL.nil (after_rnd ?_)
        refine X.next (i + 1) rfl (EnvLe.cons (by rfl) (EnvLe.nil)) (Keeps.cons (by exact Eq.trans (b := .sl _ _ _) rfl rfl) (Keeps.cons (by exact Eq.trans (b := .raw _) rfl rfl) (Keeps.cons (by exact Eq.trans (b := .raw _) rfl rfl) (Keeps.nil)))) (by repeat (exact HSub.refl _)) ?_ ?_
        · refine ⟨by omega, fun j hj y hy => ?_⟩
          by_cases c : j = i
          · rw [c, hv] at hy; rw [← Option.some.inj hy]; exact h4
          · exact hfa j (by omega) y hy
        · omega
    · try have h2 := of_decide_eq_false h2
      refine LW.exit (exit_code (exit_rnd (exit_blk (after_code ?_))))
      refine LW.seq ?_
      refine LW.region ?_
      refine X.u (LU.assignR Is.rfl') rfl ?_
      refine LL.nil (after_code ?_)
      refine LW.ret (after_end ?_)
      refine X.ret (H' := H) (Res.one (by exact IsR rfl)) (HSub.refl _) ?_
      exact ⟨by rw [fi_none (fun x hx => by obtain ⟨j, hj⟩ := List.getElem?_of_mem hx; exact hfa j (by have := (List.getElem?_eq_some_iff.1 hj).1; omega) x hj)], rfl⟩
set_option maxRecDepth 100000 in
theorem containsF_calls (l : List Vx) (k : Cap) (yv : Value) (f : Vx → Bool) (H : List Atom) (hl : l.length < 1000000) (hf : ∀ v, FnCalls Tryd.prog yv [.agg (vxL v)] H (fun r H' => r = bl (f v) ∧ H = H')) : LCalls Tryd.prog 35 [Vxs l k, .raw yv] H (fun r H' => r = bl (l.any f) ∧ H = H') := by
  refine LCalls.of Tryd.func35 rfl Tryd.ntmps35 Tryd.results35 rfl (fun Rf => ?_)
  refine LW.seq ?_
  refine LW.region ?_
  refine X.u (LU.assignR Is.rfl') rfl ?_
  refine LL.nil (after_code ?_)
  refine LW.seq ?_
  refine LW.region ?_
  refine X.u (LU.moveS Is.rfl') rfl ?_
  refine X.u (LU.moveR Is.rfl') rfl ?_
  refine X.act (X.call (indexF_calls l k yv f H hl hf) Tryd.func54 rfl rfl rfl (HSub.refl _) (Opds.cons Is.rfl' (Opds.cons Is.rfl' Opds.nil)) ?_)
  rintro r H' ⟨rfl, rfl⟩
  refine X.u (LU.geq Is.rfl' Is.rfl') rfl ?_
  refine X.u (LU.assignR Is.rfl') rfl ?_
  refine LL.nil (after_code ?_)
  refine LW.ret (after_end ?_)
  refine X.ret (H' := H) (Res.one (by exact IsR rfl)) (HSub.refl _) ?_
  exact ⟨by rw [← fi_any], rfl⟩
end Go.Proofs.YtolpkeajokjbjaaDoor
namespace Go.Proofs.YtolpkeajokjbjaaDoor
open Go.RowKit Go.L
attribute [local irreducible] LL LW LO
inductive Rch (f : Vx → List Vx) (h : Vx) : Vx → Prop
  | one {d : Vx} : d ∈ f h → Rch f h d
  | step {y d : Vx} : Rch f h y → d ∈ f y → Rch f h d
theorem Rch.closed {f : Vx → List Vx} {h : Vx} {S : Vx → Prop} (h0 : ∀ d ∈ f h, S d) (h1 : ∀ y, S y → ∀ d ∈ f y, S d) : ∀ {x : Vx}, Rch f h x → S x
  | _, .one hd => h0 _ hd
  | _, .step hy hd => h1 _ (Rch.closed h0 h1 hy) _ hd
theorem Rch.last {f : Vx → List Vx} {h : Vx} {x : Vx} (hx : Rch f h x) : ∃ y, x ∈ f y := by
  cases hx with
  | one hd => exact ⟨_, hd⟩
  | step _ hd => exact ⟨_, hd⟩
abbrev nx (m : At) (v : Vx) : List Vx := (atG m v).next
theorem nodup_len {α : Type} [DecidableEq α] : ∀ {k l : List α}, k.Nodup → (∀ x, x ∈ k → x ∈ l) → k.length ≤ l.length
  | [], l, _, _ => Nat.zero_le _
  | a :: k, l, hk, hs => by
    have ha := hs a (by simp)
    obtain ⟨h1, h2⟩ := List.nodup_cons.1 hk
    have hl := (List.perm_cons_erase ha).length_eq
    have := nodup_len (l := l.erase a) h2 (fun x hx => by
      have : x ≠ a := fun e => h1 (e ▸ hx)
      exact (List.mem_erase_of_ne this).2 (hs x (List.mem_cons_of_mem _ hx)))
    simp only [List.length_cons] at hl ⊢
    omega
def allN (m : At) : List Vx := m.flatMap fun p => p.2.next
theorem look_mem : ∀ {m : At} {v : Vx} {x : Ln}, lookA m v = some x → (v, x) ∈ m
  | p :: r, v, x, h => by
    rw [lookA] at h
    split at h
    · rename_i c
      have := Option.some.inj h
      rw [← c, ← this]; simp
    · exact List.mem_cons_of_mem _ (look_mem h)
theorem nx_all {m : At} {v d : Vx} (h : d ∈ nx m v) : d ∈ allN m := by
  unfold nx atG at h
  cases hq : lookA m v with
  | none => rw [hq] at h; cases h
  | some x => rw [hq] at h; exact List.mem_flatMap.2 ⟨(v, x), look_mem hq, h⟩
/-- The search: what was looked at, what was seen, what is to be looked at. -/
structure Sk (m : At) (a b : Vx) (D ks todo : List Vx) (S : List (Vx × Int)) : Prop where
  nd : ks.Nodup
  perm : (a :: ks).Perm (D ++ todo)
  cl : ∀ v ∈ D, b ∉ nx m v ∧ ∀ w ∈ nx m v, w ∈ ks
  rch : ∀ v ∈ ks, Rch (nx m) a v
  look : ∀ w, lookA S w = if w ∈ ks then some 1 else none
theorem Sk.len {m : At} {a b : Vx} {D ks todo : List Vx} {S : List (Vx × Int)} (h : Sk m a b D ks todo S) : ks.length ≤ (allN m).length ∧ todo.length ≤ ks.length + 1 := by
  refine ⟨nodup_len h.nd fun x hx => by obtain ⟨y, hy⟩ := (h.rch x hx).last; exact nx_all hy, ?_⟩
  have := h.perm.length_eq
  rw [List.length_append, List.length_cons] at this
  omega
theorem Sk.none {m : At} {a b : Vx} {D ks : List Vx} {S : List (Vx × Int)} (h : Sk m a b D ks [] S) : ¬ Rch (nx m) a b := fun hr => by
  have hm : ∀ x, x ∈ a :: ks → x ∈ D := fun x hx => by have := h.perm.mem_iff.1 hx; simpa using this
  have hb : ∀ y, y ∈ a :: ks → b ∉ nx m y := fun y hy => (h.cl y (hm y hy)).1
  cases hr with
  | one hd => exact hb a (by simp) hd
  | step hy hd =>
    refine hb _ (List.mem_cons_of_mem _ ?_) hd
    exact Rch.closed (S := fun x => x ∈ ks) (fun d hd => (h.cl a (hm a (by simp))).2 d hd) (fun y hy d hd => (h.cl y (hm y (List.mem_cons_of_mem _ hy))).2 d hd) hy
/-- Within the search at v: the first j of those behind it are seen. -/
structure Si (m : At) (a b v : Vx) (j : Nat) (D ks todo : List Vx) (S : List (Vx × Int)) : Prop where
  nd : ks.Nodup
  perm : (a :: ks).Perm ((v :: D) ++ todo)
  cl : ∀ v ∈ D, b ∉ nx m v ∧ ∀ w ∈ nx m v, w ∈ ks
  now : ∀ w ∈ (nx m v).take j, w ≠ b ∧ w ∈ ks
  rch : ∀ v ∈ ks, Rch (nx m) a v
  look : ∀ w, lookA S w = if w ∈ ks then some 1 else none
theorem Sk.pop {m : At} {a b v : Vx} {D ks todo : List Vx} {S : List (Vx × Int)} (h : Sk m a b D ks (todo ++ [v]) S) : Si m a b v 0 D ks todo S :=
  ⟨h.nd, h.perm.trans (by
    have := (List.perm_append_comm (l₁ := D ++ todo) (l₂ := [v]))
    rw [← List.append_assoc]
    exact this), h.cl, fun w hw => by simp at hw, h.rch, h.look⟩
theorem Si.mem {m : At} {a b v : Vx} {j : Nat} {D ks todo : List Vx} {S : List (Vx × Int)} (h : Si m a b v j D ks todo S) {w : Vx} (hw : w ∈ nx m v) : Rch (nx m) a w := by
  have : v ∈ a :: ks := h.perm.mem_iff.2 (by simp)
  rcases List.mem_cons.1 this with e | e
  · rw [e] at hw; exact .one hw
  · exact .step (h.rch v e) hw
theorem Si.old {m : At} {a b v w : Vx} {j : Nat} {D ks todo : List Vx} {S : List (Vx × Int)} (h : Si m a b v j D ks todo S) (hw : (nx m v)[j]? = some w) (hb : w ≠ b) (hk : w ∈ ks) : Si m a b v (j + 1) D ks todo S :=
  ⟨h.nd, h.perm, h.cl, fun x hx => by
    rw [take_snoc hw, List.mem_append, List.mem_singleton] at hx
    rcases hx with e | e
    · exact h.now x e
    · rw [e]; exact ⟨hb, hk⟩, h.rch, h.look⟩
theorem Si.new {m : At} {a b v w : Vx} {j : Nat} {D ks todo : List Vx} {S : List (Vx × Int)} (h : Si m a b v j D ks todo S) (hw : (nx m v)[j]? = some w) (hb : w ≠ b) (hk : w ∉ ks) : Si m a b v (j + 1) D (ks ++ [w]) (todo ++ [w]) (setA S w 1) :=
  ⟨nodup_snoc.2 ⟨h.nd, hk⟩, by
    have := h.perm.append_right [w]
    rw [List.append_assoc] at this
    exact this, fun x hx => ⟨(h.cl x hx).1, fun y hy => List.mem_append_left _ ((h.cl x hx).2 y hy)⟩, fun x hx => by
    rw [take_snoc hw, List.mem_append, List.mem_singleton] at hx
    rcases hx with e | e
    · exact ⟨(h.now x e).1, List.mem_append_left _ (h.now x e).2⟩
    · rw [e]; exact ⟨hb, by simp⟩, fun x hx => by
    rcases List.mem_append.1 hx with e | e
    · exact h.rch x e
    · rw [List.mem_singleton.1 e]; exact h.mem (List.mem_of_getElem? hw), fun x => by
    rw [look_setA, h.look]
    by_cases c : w = x
    · subst c; simp
    · rw [if_neg c]
      have : (x ∈ ks ++ [w]) ↔ x ∈ ks := by
        rw [List.mem_append, List.mem_singleton]
        exact ⟨fun e => e.elim id fun e => absurd e.symm c, .inl⟩
      by_cases d : x ∈ ks
      · rw [if_pos d, if_pos (this.2 d)]
      · rw [if_neg d, if_neg (fun e => d (this.1 e))]⟩
theorem Si.done {m : At} {a b v : Vx} {D ks todo : List Vx} {S : List (Vx × Int)} (h : Si m a b v (nx m v).length D ks todo S) : Sk m a b (v :: D) ks todo S :=
  ⟨h.nd, h.perm, fun x hx => by
    rcases List.mem_cons.1 hx with e | e
    · rw [e]
      exact ⟨fun hb => (h.now b (by rw [List.take_length]; exact hb)).1 rfl, fun w hw => (h.now w (by rw [List.take_length]; exact hw)).2⟩
    · exact h.cl x e, h.rch, h.look⟩
theorem OwnS.pop {size : Nat} {e : List LV} {es : List (List LV)} {A : Option Nat} {off n c : Nat} {xs : List LV} (h : OwnS size (es ++ [e]) A off n c xs) : OwnS size es A off (n - 1) c xs ∧ (xs.drop (off + (n - 1) * size)).take size = e ∧ 0 < n := by
  have hn : n = es.length + 1 := by have := h.cnt; rw [List.length_append, List.length_singleton] at this; omega
  have he : e.length = size := h.sz e (by simp)
  have hf : es.flatten.length = (n - 1) * size := by
    rw [flat_len fun x hx => h.sz x (List.mem_append_left _ hx), hn]; rfl
  have hc := h.cells
  rw [List.flatten_append] at hc
  have hns : n * size = (n - 1) * size + size := by rw [hn, Nat.succ_mul]; rfl
  refine ⟨⟨by omega, by have := h.le; omega, h.len, ?_, fun x hx => h.sz x (List.mem_append_left _ hx), h.nil⟩, ?_, by omega⟩
  · have h2 := congrArg (List.take ((n - 1) * size)) hc
    rw [List.take_take, Nat.min_eq_left (by omega), List.take_left' hf] at h2
    exact h2
  · have h2 := congrArg (List.drop ((n - 1) * size)) hc
    rw [List.drop_left' hf, List.drop_take, List.drop_drop, hns, Nat.add_sub_cancel_left] at h2
    simpa using h2
end Go.Proofs.YtolpkeajokjbjaaDoor
namespace Go.Proofs.YtolpkeajokjbjaaDoor
open Go.RowKit Go.L
attribute [local irreducible] LL LW LO
abbrev sE (n : Int) : LV := i64 n
theorem seen_is (S : List (Vx × Int)) (ks : List Vx) (h : ∀ w, lookA S w = if w ∈ ks then some 1 else none) (w : Vx) : (lookM (encM sE S) w).getD (.raw (.int .i64 0)) = i64 (if w ∈ ks then 1 else 0) := by
  rw [look_enc, h]
  split <;> rfl
theorem own1 (a : Vx) (b : Nat) : OwnS 33 (vxs [a]) (some b) 0 1 1 [vxL a].flatten := by
  rw [show [vxL a].flatten = vxL a by simp]
  exact ⟨rfl, Nat.le_refl _, by rw [vxL_len]; decide, by rw [List.drop_zero, List.take_of_length_le (by rw [vxL_len]; decide)]; simp, vxs_size [a], fun h => by cases h⟩
theorem sliced0 (b off n c : Nat) : sliced ((some b).map fun b => (⟨b, off, none⟩ : Addr)) 0 n c 33 = .slice (some ⟨b, off, none⟩) n c := by
  unfold sliced
  by_cases h : c = 0
  · rw [if_pos h]; rfl
  · rw [if_neg h]; simp [add_lit]
set_option maxHeartbeats 2000000 in
set_option maxRecDepth 100000 in
theorem ahead_calls (g ma mb : Nat) (n : Int) (m : At) (a b : Vx) (t : Bool) (hT : (allN m).length < 900000) (hN : ∀ v, (nx m v).length < 900000) (ht : t = true ↔ (lookA m a).isSome = true ∧ (lookA m b).isSome = true ∧ Rch (nx m) a b) : LCalls Tryd.prog 21 [pt g, .agg (vxL a), .agg (vxL b)] [gC g ma mb n, gA ma m] (fun r H' => r = bl t ∧ H' = [gC g ma mb n, gA ma m]) := by
  have hal := vxL_len a
  have hbl := vxL_len b
  have ha32 : a.p.1.length = 32 := a.p.2
  have hb32 : b.p.1.length = 32 := b.p.2
  refine LCalls.of Tryd.func21 rfl Tryd.ntmps21 Tryd.results21 rfl (fun Rf => ?_)
  refine LW.seq ?_
  refine LW.region ?_
  refine X.act (X.box rfl Is.rfl' (by exact Cells.agg) (fun b4 => ?_))
  refine X.act (X.box rfl Is.rfl' (by exact Cells.agg) (fun b5 => ?_))
  refine X.u (LU.assignR Is.rfl') rfl ?_
  refine LL.nil (after_code ?_)
  refine LW.seq ?_
  refine LW.seq ?_
  refine LW.region ?_
  refine X.u (LU.moveR Is.rfl') rfl ?_
  refine X.u (LU.loadO 1 rfl ⟨Tryd.sizeOf35, Tryd.isAgg35⟩ Is.rfl' (Part.whole (by assumption))) rfl ?_
  refine X.u (LU.callP (show List.Perm _ ([gC g ma mb n, gA ma m] ++ (.cells b5 35 (vxL b) :: .cells b4 35 (vxL a) :: Rf)) from perm_of fun x => (by simp only [List.count_append, List.count_cons, List.count_nil]; omega)) (has_calls g ma mb n m a) Tryd.func20 rfl rfl (Opds.cons Is.rfl' (Opds.cons Is.rfl' Opds.nil))) rfl ?_
  refine X.u (LU.not Is.rfl') rfl ?_
  refine X.u (LU.moveR Is.rfl') rfl ?_
  refine X.gF rfl rfl (fun hg => LU.moveR (by exact Is.rfl')) rfl ?_
  refine X.gF rfl rfl (fun hg => LU.loadO 0 rfl ⟨Tryd.sizeOf35, Tryd.isAgg35⟩ (by exact Is.rfl') (Part.whole (by assumption))) rfl ?_
  refine X.gF rfl rfl (fun hg => LU.callP (show List.Perm _ ([gC g ma mb n, gA ma m] ++ (.cells b5 35 (vxL b) :: .cells b4 35 (vxL a) :: Rf)) from perm_of fun x => (by simp only [List.count_append, List.count_cons, List.count_nil]; omega)) (has_calls g ma mb n m b) Tryd.func20 rfl rfl (Opds.cons (by exact Is.whenN hg) (Opds.cons (by exact Is.whenN hg) Opds.nil))) rfl ?_
  refine X.gF rfl rfl (fun hg => LU.not (by exact Is.whenN hg)) rfl ?_
  refine X.u (LU.pickOr Is.rfl' Is.rfl' (fun hq => (by exact Is.whenN hq))) rfl ?_
  refine LL.nil (after_code ?_)
  refine X.cond rfl (fun h1 => ?_) (fun h1 => ?_)
  · have h1 : (lookA m a).isSome = false ∨ (lookA m b).isSome = false := by simpa using h1
    have htf : t = false := Bool.eq_false_iff.2 (fun e => by obtain ⟨x1, x2, _⟩ := ht.1 e; rcases h1 with e | e <;> simp_all)
    refine LW.seq ?_
    refine LW.region ?_
    refine X.u (LU.assignR Is.rfl') rfl ?_
    refine LL.nil (after_code ?_)
    refine LW.ret (ret_code (after_end ?_))
    refine X.ret (H' := [gC g ma mb n, gA ma m]) (Res.one (by exact IsR rfl)) (by repeat (first | exact HSub.refl _ | refine HSub.pick 2 rfl ?_ | refine HSub.drop ?_)) ?_
    exact ⟨by rw [htf], rfl⟩
  · have h1 : (lookA m a).isSome = true ∧ (lookA m b).isSome = true := by simpa using h1
    have hz0 : (0 : Nat) = 0 := rfl
    refine LW.skip (after_code ?_)
    refine LW.seq ?_
    refine LW.region ?_
    refine X.act (LO.makeMap (st := ⟨_, _, _⟩) rfl (fun b22 => ?_))
    refine X.u (LU.assignR Is.rfl') rfl ?_
    refine LL.nil (after_code ?_)
    refine LW.seq ?_
    refine LW.region ?_
    refine X.u (LU.loadO 2 rfl ⟨Tryd.sizeOf35, Tryd.isAgg35⟩ Is.rfl' (Part.whole (by assumption))) rfl ?_
    refine X.act (X.litO rfl Tryd.underlying26 Tryd.sizeOf35 Tryd.zeroValue35 (ones rfl) rfl (by decide) (by decide) (Elems.cons Is.rfl' Cells.agg Elems.nil) (by intro e he; rw [List.mem_singleton.1 he]; exact hal) rfl (fun b24 => ?_))
    refine X.u (LU.assignR Is.rfl') rfl ?_
    refine LL.nil (after_code ?_)
    refine LW.seq ?_
    refine LW.block ?_
    refine X.wghost (H' := .map b22 (mp vxV (encM sE [])) :: .cells b5 35 (vxL b) :: gC g ma mb n :: gA ma m :: .cells b24 35 [vxL a].flatten :: Rf) (by repeat (first | exact HSub.refl _ | refine HSub.pick 0 rfl ?_ | refine HSub.pick 1 rfl ?_ | refine HSub.pick 2 rfl ?_ | refine HSub.drop ?_)) ?_
    refine X.loopK (α := List Vx × List Vx × List Vx × List (Vx × Int) × Nat × TypeId × Nat × Nat × List LV) (fun ⟨D, ks, todo, S, bA, te, off, c, xs⟩ => [(8, ownV (some bA) off todo.length c)]) [0, 5, 7] (fun ⟨D, ks, todo, S, bA, te, off, c, xs⟩ => .map b22 (mp vxV (encM sE S)) :: .cells b5 35 (vxL b) :: gC g ma mb n :: gA ma m :: .cells bA te xs :: Rf) (fun ⟨D, ks, todo, S, bA, te, off, c, xs⟩ => Sk m a b D ks todo S ∧ OwnS 33 (vxs todo) (some bA) off todo.length c xs) (fun ⟨D, ks, todo, S, bA, te, off, c, xs⟩ => 2 * ((allN m).length - ks.length) + todo.length) (([], [], [a], [], b24, 35, 0, 1, [vxL a].flatten)) (EnvLe.cons (by rfl) (EnvLe.nil)) (by repeat (exact HSub.refl _)) ?_ ?_
    · exact ⟨⟨List.nodup_nil, List.Perm.refl _, (fun v hv => by cases hv), (fun v hv => by cases hv), fun w => rfl⟩, own1 a b24⟩
    · rintro ⟨D, ks, todo, S, bA, te, off, c, xs⟩ hI
      obtain ⟨hS, ow⟩ := hI
      have hsl := hS.len
      refine LW.seq ?_
      refine LW.seq ?_
      refine LW.region ?_
      refine X.u (LU.moveR Is.rfl') rfl ?_
      refine X.u (LU.lenO Tryd.underlying26 Is.rfl') rfl ?_
      refine X.u (LU.gtr Is.rfl' Is.rfl') rfl ?_
      refine LL.nil (after_code ?_)
      refine X.cond rfl (fun h5 => ?_) (fun h5 => ?_)
      · obtain ⟨td, v, htd⟩ : ∃ td v, todo = td ++ [v] := ⟨todo.dropLast, todo.getLast (by intro e; rw [e] at h5; simp at h5), (List.dropLast_concat_getLast _).symm⟩
        have hvl := vxL_len v
        have hv32 : v.p.1.length = 32 := v.p.2
        have htl : todo.length = td.length + 1 := by rw [htd, List.length_append]; rfl
        have hS0 := hS
        rw [htd] at hS0
        have hpop := hS0.pop
        have ow0 := ow
        rw [htd, ← vxs_app] at ow0
        obtain ⟨owp, hlast, hn0⟩ := OwnS.pop ow0
        rw [List.length_append, List.length_singleton, Nat.add_sub_cancel] at hlast
        have howl := ow.len
        have howle := ow.le
        have hbd : off + td.length * 33 + 33 ≤ xs.length := by omega
        refine LW.skip (after_code ?_)
        refine LW.block ?_
        refine LW.seq ?_
        refine LW.region ?_
        refine X.u (LU.moveR Is.rfl') rfl ?_
        refine X.u (LU.moveR Is.rfl') rfl ?_
        refine X.u (LU.lenO Tryd.underlying26 Is.rfl') rfl ?_
        refine X.u (LU.weak (LU.subN Is.rfl' Is.rfl' (wrap_i64 (by omega) (by omega))) (Is.of (y := i64 (td.length : Nat)) (congrArg i64 (by omega)))) rfl ?_
        refine X.u (LU.atO Tryd.underlying26 Tryd.sizeOf35 Is.rfl' Is.rfl' (by omega) (by omega)) rfl ?_
        refine X.u (LU.weak (LU.loadO 4 rfl ⟨Tryd.sizeOf35, Tryd.isAgg35⟩ Is.rfl' (Part.sub (by (simp; omega)))) (Is.of (y := .agg (vxL v)) (congrArg LV.agg hlast))) rfl ?_
        refine X.act (X.alloc rfl Tryd.zeroValue35 (by exact Cells.rawagg (by decide)) (fun b9 => ?_))
        refine X.act (X.store 0 rfl Tryd.sizeOf35 Is.rfl' Is.rfl' (by exact Cells.agg) (by assumption) (by exact Nat.le_of_ble_eq_true rfl) ?_)
        refine LL.nil (after_code ?_)
        refine LW.seq ?_
        refine X.wcells (ys := vxL v) (putAt_all (by rw [hvl]; rfl)) ?_
        refine LW.region ?_
        refine X.u (LU.moveR Is.rfl') rfl ?_
        refine X.u (LU.moveR Is.rfl') rfl ?_
        refine X.u (LU.lenO Tryd.underlying26 Is.rfl') rfl ?_
        refine X.u (LU.weak (LU.subN Is.rfl' Is.rfl' (wrap_i64 (by omega) (by omega))) (Is.of (y := i64 (td.length : Nat)) (congrArg i64 (by omega)))) rfl ?_
        refine X.u (LU.weak (LU.sliceR (l := none) (h := some ((td.length : Nat) : Int)) Tryd.sizeOf35 Tryd.underlying26 Is.rfl' trivial ⟨_, Is.rfl'⟩ (by simp) (by simp) (by simp; omega) (by omega)) (Is.of (y := ownV (some bA) off td.length c) (congrArg LV.raw ((sliced0 bA off _ c).trans (by simp))))) rfl ?_
        refine X.u (LU.assignR Is.rfl') rfl ?_
        refine LL.nil (after_code ?_)
        refine LW.seq ?_
        refine X.drawM 9 rfl (by kernel_rfl) rfl ?_
        refine QD.u (LU.moveR Is.rfl') rfl ?_
        refine QD.u (LU.nilCheck Is.rfl') rfl ?_
        refine QD.u (LU.fieldO Tryd.underlying68 rfl Tryd.sizeOf65 (by decide) Is.rfl') rfl ?_
        refine QD.u (LU.loadO 3 rfl ⟨Tryd.sizeOf65, Tryd.isAgg65⟩ Is.rfl' (Part.one rfl)) rfl ?_
        refine QD.u (LU.loadO 0 rfl ⟨Tryd.sizeOf35, Tryd.isAgg35⟩ Is.rfl' (Part.whole (by assumption))) rfl ?_
        refine QD.u (LU.weak (LU.lookup 4 (KeyOk.vx vxty) rfl Tryd.underlying65 Tryd.zeroValue73 Is.rfl' (by exact Is.vx _)) (at_is m v)) rfl ?_
        refine QD.u (LU.field Tryd.underlying73 rfl ⟨Tryd.sizeOf26, Tryd.isAgg26⟩ Is.rfl' (Part.one rfl)) rfl ?_
        refine QD.u (LU.lenN Tryd.underlying26 Is.rfl' (by (simp only [Option.getD_some, Option.getD_none, byteEls_length, intEls_length, List.length_append, List.length_cons, List.length_nil, List.length_map, List.length_drop, List.length_take, Int.toNat_natCast]; rfl))) rfl ?_
        refine QD.u (LU.moveR Is.rfl') rfl ?_
        refine QD.nil ?_
        refine LL.nil (after_code ?_)
        refine LW.block ?_
        refine X.wghost (H' := .map b22 (mp vxV (encM sE S)) :: .cells b5 35 (vxL b) :: gC g ma mb n :: gA ma m :: .cells bA te xs :: Rf) (by repeat (first | exact HSub.refl _ | refine HSub.pick 1 rfl ?_ | refine HSub.drop ?_)) ?_
        refine X.loopK (α := Nat × List Vx × List Vx × List (Vx × Int) × Nat × TypeId × Nat × Nat × List LV) (fun ⟨j, ks2, td2, S2, bB, te2, off2, c2, xs2⟩ => [(47, i64 j), (8, ownV (some bB) off2 td2.length c2)]) [0, 5, 7, 45, 46] (fun ⟨j, ks2, td2, S2, bB, te2, off2, c2, xs2⟩ => .map b22 (mp vxV (encM sE S2)) :: .cells b5 35 (vxL b) :: gC g ma mb n :: gA ma m :: .cells bB te2 xs2 :: Rf) (fun ⟨j, ks2, td2, S2, bB, te2, off2, c2, xs2⟩ => j ≤ (atG m v).next.length ∧ Si m a b v j D ks2 td2 S2 ∧ OwnS 33 (vxs td2) (some bB) off2 td2.length c2 xs2 ∧ ks.length ≤ ks2.length ∧ td2.length + ks.length = td.length + ks2.length) (fun ⟨j, ks2, td2, S2, bB, te2, off2, c2, xs2⟩ => (atG m v).next.length - j) ((0, ks, td, S, bA, te, off, c, xs)) (EnvLe.cons (by rfl) (EnvLe.cons (by rfl) (EnvLe.nil))) (by repeat (exact HSub.refl _)) ?_ ?_
        · exact ⟨Nat.zero_le _, hpop, (by rw [show td.length = (td ++ [v]).length - 1 by simp]; exact owp), Nat.le_refl _, rfl⟩
        · rintro ⟨j, ks2, td2, S2, bB, te2, off2, c2, xs2⟩ hI
          obtain ⟨hj, hS2, ow2, hkk, htk⟩ := hI
          have hNv : (atG m v).next.length < 900000 := hN v
          have hks2 := nodup_len hS2.nd fun x hx => by obtain ⟨y, hy⟩ := (hS2.rch x hx).last; exact nx_all hy
          have htd2 : td2.length ≤ ks2.length + 1 := by have := hS2.perm.length_eq; rw [List.length_append, List.length_cons, List.length_cons] at this; omega
          refine LW.seq ?_
          refine LW.region ?_
          refine X.u (LU.lss Is.rfl' Is.rfl') rfl ?_
          refine LL.nil (after_code ?_)
          refine LW.seq ?_
          refine X.cond rfl (fun h9 => ?_) (fun h9 => ?_)
          · try have h9 := of_decide_eq_true h9
            refine LW.skip (after_code ?_)
            refine LW.seq ?_
            refine LW.block ?_
            refine LW.seq ?_
            obtain ⟨w, hw⟩ := at_lt (show j < (atG m v).next.length by omega)
            have hwl := vxL_len w
            have hw32 : w.p.1.length = 32 := w.p.2
            refine LW.region ?_
            refine X.u (LU.at Tryd.underlying26 ⟨Tryd.sizeOf35, Tryd.isAgg35⟩ Is.rfl' Is.rfl' (by omega) (vxs_at hw) (vx_ne w)) rfl ?_
            refine X.u (LU.weak (LU.load ⟨Tryd.sizeOf35, Tryd.isAgg35⟩ Is.rfl' (by assumption) (Part.whole (by assumption))) (Is.of (y := .agg (vxL w)) (rfl))) rfl ?_
            refine X.act (X.alloc rfl Tryd.zeroValue35 (by exact Cells.rawagg (by decide)) (fun b11 => ?_))
            refine X.act (X.store 0 rfl Tryd.sizeOf35 Is.rfl' Is.rfl' (by exact Cells.agg) (by assumption) (by exact Nat.le_of_ble_eq_true rfl) ?_)
            refine LL.nil (after_code ?_)
            refine LW.seq ?_
            refine LW.seq ?_
            refine X.wcells (ys := vxL w) (putAt_all (by rw [hwl]; rfl)) ?_
            refine X.wghost (H' := .map b22 (mp vxV (encM sE S2)) :: .cells b11 35 (vxL w) :: .cells b5 35 (vxL b) :: gC g ma mb n :: gA ma m :: .cells bB te2 xs2 :: Rf) (by repeat (first | exact HSub.refl _ | refine HSub.pick 1 rfl ?_)) ?_
            refine LW.region ?_
            refine X.u (LU.loadO 1 rfl ⟨Tryd.sizeOf35, Tryd.isAgg35⟩ Is.rfl' (Part.whole (by assumption))) rfl ?_
            refine X.u (LU.loadO 2 rfl ⟨Tryd.sizeOf35, Tryd.isAgg35⟩ Is.rfl' (Part.whole (by assumption))) rfl ?_
            refine X.u (LU.eqlVx vxty Is.rfl' Is.rfl') rfl ?_
            refine LL.nil (after_code ?_)
            refine X.cond rfl (fun h11 => ?_) (fun h11 => ?_)
            · have h11 : w = b := by simpa using h11
              have htt : t = true := ht.2 ⟨h1.1, h1.2, by rw [← h11]; exact hS2.mem (List.mem_of_getElem? hw)⟩
              refine LW.seq ?_
              refine LW.region ?_
              refine X.u (LU.assignR Is.rfl') rfl ?_
              refine LL.nil (after_code ?_)
              refine LW.ret (ret_code (ret_blk (ret_code (ret_rnd (ret_blk (ret_blk (ret_rnd (ret_blk (ret_code (after_end ?_))))))))))
              refine X.ret (H' := [gC g ma mb n, gA ma m]) (Res.one (by exact IsR rfl)) (by repeat (first | exact HSub.refl _ | refine HSub.pick 3 rfl ?_ | refine HSub.drop ?_)) ?_
              exact ⟨by rw [htt], rfl⟩
            · have h11 : w ≠ b := by simpa using h11
              have hz0 : (0 : Nat) = 0 := rfl
              refine LW.skip (after_code ?_)
              refine LW.seq ?_
              refine LW.region ?_
              refine X.u (LU.moveR Is.rfl') rfl ?_
              refine X.u (LU.loadO 1 rfl ⟨Tryd.sizeOf35, Tryd.isAgg35⟩ Is.rfl' (Part.whole (by assumption))) rfl ?_
              refine X.u (LU.weak (LU.lookup 0 (KeyOk.vx vxty) rfl Tryd.underlying87 Tryd.zeroValue3 Is.rfl' (by exact Is.vx _)) (Is.of (y := i64 (if w ∈ ks2 then 1 else 0)) (seen_is S2 ks2 hS2.look w))) rfl ?_
              refine X.u (LU.eql Is.rfl' Is.rfl') rfl ?_
              refine LL.nil (after_code ?_)
              refine X.cond rfl (fun h13 => ?_) (fun h13 => ?_)
              · have h13 : w ∉ ks2 := fun c => by rw [if_pos c] at h13; simp at h13
                have hz0 : (0 : Nat) = 0 := rfl
                refine LW.seq ?_
                refine LW.region ?_
                refine X.u (LU.moveR Is.rfl') rfl ?_
                refine X.u (LU.loadO 1 rfl ⟨Tryd.sizeOf35, Tryd.isAgg35⟩ Is.rfl' (Part.whole (by assumption))) rfl ?_
                refine X.act (LO.mapUpdate (st := ⟨_, _, _⟩) 0 (KeyOk.vx vxty) rfl Tryd.underlying87 Is.rfl' (by exact Is.vx _) Is.rfl' ?_)
                refine LL.nil (after_code ?_)
                refine X.wghost (H' := .map b22 (mp vxV (encM sE (setA S2 w 1))) :: .cells b11 35 (vxL w) :: .cells b5 35 (vxL b) :: gC g ma mb n :: gA ma m :: .cells bB te2 xs2 :: Rf) (by rw [← set_enc sE]; exact (by repeat (exact HSub.refl _))) ?_
                refine LW.region ?_
                refine X.u (LU.moveR Is.rfl') rfl ?_
                refine X.u (LU.loadO 1 rfl ⟨Tryd.sizeOf35, Tryd.isAgg35⟩ Is.rfl' (Part.whole (by assumption))) rfl ?_
                refine X.u (LU.lits Tryd.underlying26 Tryd.sizeOf35 Tryd.zeroValue35 (ones rfl) rfl (by decide) (by decide) (Elems.cons Is.rfl' (by exact Cells.agg) Elems.nil) (by (simp; assumption)) rfl) rfl ?_
                refine X.act (X.appendR ow2 (HSub.pick 5 rfl (HSub.refl _)) rfl Tryd.underlying26 (El.of (P := Tryd.prog) (z := (.agg #[(.int .u8 0), (.int .u8 0), (.int .u8 0), (.int .u8 0), (.int .u8 0), (.int .u8 0), (.int .u8 0), (.int .u8 0), (.int .u8 0), (.int .u8 0), (.int .u8 0), (.int .u8 0), (.int .u8 0), (.int .u8 0), (.int .u8 0), (.int .u8 0), (.int .u8 0), (.int .u8 0), (.int .u8 0), (.int .u8 0), (.int .u8 0), (.int .u8 0), (.int .u8 0), (.int .u8 0), (.int .u8 0), (.int .u8 0), (.int .u8 0), (.int .u8 0), (.int .u8 0), (.int .u8 0), (.int .u8 0), (.int .u8 0), (.int .i64 0)])) (size := 33) (bytes := 40) rfl rfl rfl) (ones rfl) Is.rfl' Is.rfl' (SrcL.slice Tryd.underlying26 (by decide) (vxs_size [w])) (by simp) (by simp; omega) (by simp; omega) (fun b63 te63 off63 c63 xs63 ow63 => ?_))
                refine X.u (LU.assignR Is.rfl') rfl ?_
                refine LL.nil (after_blk (after_code ?_))
                refine LW.region ?_
                refine X.u (LU.addN Is.rfl' Is.rfl' (wrap_i64 (by omega) (by omega))) rfl ?_
                refine X.u (LU.moveR Is.rfl') rfl ?_
                refine LL.nil (after_rnd ?_)
                refine X.next ((j + 1, ks2 ++ [w], td2 ++ [w], setA S2 w 1, b63, te63, off63, c63, xs63)) rfl (EnvLe.cons (by rfl) (EnvLe.cons (by exact (by rw [List.length_append]; rfl)) (EnvLe.nil))) (Keeps.cons (by exact Eq.trans (b := .raw _) rfl rfl) (Keeps.cons (by exact Eq.trans (b := .raw _) rfl rfl) (Keeps.cons (by exact Eq.trans (b := .raw _) rfl rfl) (Keeps.cons (by exact Eq.trans (b := .sl _ _ _) rfl rfl) (Keeps.cons (by exact Eq.trans (b := .raw _) rfl rfl) (Keeps.nil)))))) (by repeat (first | exact HSub.refl _ | refine HSub.pick 0 rfl ?_ | refine HSub.pick 1 rfl ?_ | refine HSub.pick 2 rfl ?_ | refine HSub.drop ?_)) ?_ ?_
                · exact ⟨by omega, hS2.new hw h11 h13, by rw [← vxs_app, List.length_append]; exact ow63, by rw [List.length_append]; omega, by rw [List.length_append, List.length_append]; omega⟩
                · (simp; omega)
              · have h13 : w ∈ ks2 := Classical.byContradiction fun c => by rw [if_neg c] at h13; simp at h13
                have hz0 : (0 : Nat) = 0 := rfl
                refine LW.skip (after_blk (after_code ?_))
                refine LW.region ?_
                refine X.u (LU.addN Is.rfl' Is.rfl' (wrap_i64 (by omega) (by omega))) rfl ?_
                refine X.u (LU.moveR Is.rfl') rfl ?_
                refine LL.nil (after_rnd ?_)
                refine X.next ((j + 1, ks2, td2, S2, bB, te2, off2, c2, xs2)) rfl (EnvLe.cons (by rfl) (EnvLe.cons (by rfl) (EnvLe.nil))) (Keeps.cons (by exact Eq.trans (b := .raw _) rfl rfl) (Keeps.cons (by exact Eq.trans (b := .raw _) rfl rfl) (Keeps.cons (by exact Eq.trans (b := .raw _) rfl rfl) (Keeps.cons (by exact Eq.trans (b := .sl _ _ _) rfl rfl) (Keeps.cons (by exact Eq.trans (b := .raw _) rfl rfl) (Keeps.nil)))))) (by repeat (first | exact HSub.refl _ | refine HSub.pick 0 rfl ?_ | refine HSub.pick 1 rfl ?_ | refine HSub.drop ?_)) ?_ ?_
                · exact ⟨by omega, hS2.old hw h11 h13, ow2, hkk, htk⟩
                · (simp; omega)
          · try have h9 := of_decide_eq_false h9
            refine LW.exit (exit_code (exit_rnd (exit_blk (after_blk (after_rnd ?_)))))
            refine X.next ((v :: D, ks2, td2, S2, bB, te2, off2, c2, xs2)) rfl (EnvLe.cons (by rfl) (EnvLe.nil)) (Keeps.cons (by exact Eq.trans (b := .raw _) rfl rfl) (Keeps.cons (by exact Eq.trans (b := .raw _) rfl rfl) (Keeps.cons (by exact Eq.trans (b := .raw _) rfl rfl) (Keeps.nil)))) (by repeat (exact HSub.refl _)) ?_ ?_
            · exact ⟨(by rw [show j = (atG m v).next.length by omega] at hS2; exact hS2.done), ow2⟩
            · (simp; omega)
      · have h5 : todo = [] := by simp at h5; exact h5
        have htf : t = false := Bool.eq_false_iff.2 (fun e => by rw [h5] at hS; exact hS.none (ht.1 e).2.2)
        refine LW.exit (exit_code (exit_rnd (exit_blk (after_code ?_))))
        refine LW.seq ?_
        refine LW.region ?_
        refine X.u (LU.assignR Is.rfl') rfl ?_
        refine LL.nil (after_code ?_)
        refine LW.ret (after_end ?_)
        refine X.ret (H' := [gC g ma mb n, gA ma m]) (Res.one (by exact IsR rfl)) (by repeat (first | exact HSub.refl _ | refine HSub.pick 2 rfl ?_ | refine HSub.drop ?_)) ?_
        exact ⟨by rw [htf], rfl⟩
end Go.Proofs.YtolpkeajokjbjaaDoor
namespace Go.Proofs.YtolpkeajokjbjaaDoor
open Go.RowKit Go.L
attribute [local irreducible] LL LW LO
abbrev strsL (l : List (List UInt8)) : List (List LV) := l.map fun s => [Str s]
theorem strsL_at {l : List (List UInt8)} {i : Nat} {x : List UInt8} (h : l[i]? = some x) : (strsL l)[(i : Int).toNat]? = some [Str x] := by
  rw [Int.toNat_natCast, List.getElem?_map, h]; rfl
theorem laid_pt {a b zs : List LV} {c : LV} (ha : a.length = 33) (hb : b.length = 33) (hz : zs.length = 67) : laid (#[(0, 33), (33, 33), (66, 1)][·]?) zs [(0, a), (1, b), (2, [c])] = some (a ++ (b ++ [c])) := by
  have h1 : putAt zs 0 a = a ++ zs.drop 33 := by simp [putAt, ha]
  have h2 : putAt (a ++ zs.drop 33) 33 b = a ++ (b ++ zs.drop 66) := by
    unfold putAt
    rw [List.take_left' ha, hb, ← List.drop_drop (i := 33) (j := 33), List.drop_left' ha, List.drop_drop, List.append_assoc]
  have h3 : putAt (a ++ (b ++ zs.drop 66)) 66 [c] = a ++ (b ++ [c]) := by
    unfold putAt
    rw [show a ++ (b ++ zs.drop 66) = (a ++ b) ++ zs.drop 66 by simp, List.take_left' (by simp [ha, hb]), List.drop_of_length_le (by simp [ha, hb, hz])]
    simp
  have l1 : (a ++ zs.drop 33).length = 67 := by simp [ha, hz]
  have l2 : (a ++ (b ++ zs.drop 66)).length = 67 := by simp [ha, hb, hz]
  show (bif (Nat.beq a.length 33 && Nat.ble (0 + a.length) zs.length) then laid _ (putAt zs 0 a) [(1, b), (2, [c])] else none) = _
  rw [ha, hz, h1]
  show (bif (Nat.beq b.length 33 && Nat.ble (33 + b.length) (a ++ zs.drop 33).length) then laid _ (putAt (a ++ zs.drop 33) 33 b) [(2, [c])] else none) = _
  rw [hb, l1, h2]
  show (bif (Nat.beq 1 1 && Nat.ble (66 + 1) (a ++ (b ++ zs.drop 66)).length) then laid _ (putAt (a ++ (b ++ zs.drop 66)) 66 [c]) [] else none) = _
  rw [l2, h3]
  rfl
theorem has_fn (g ma mb : Nat) (n : Int) (m : At) (v : Vx) : FnCalls Tryd.prog (.func (.func 20) #[.pointer (some ⟨g, 0, none⟩)] #[]) [.agg (vxL v)] [gC g ma mb n, gA ma m] (fun r H' => r = bl (lookA m v).isSome ∧ [gC g ma mb n, gA ma m] = H') :=
  FnCalls.bound Tryd.func20 rfl rfl ((has_calls g ma mb n m v).mono fun r H' ⟨a, b⟩ => ⟨a, b.symm⟩)
/-- New lines, laid into the map. -/
def layA (m : At) (part : Int) : List Vx → List (List UInt8) → At
  | v :: vs, t :: ts => layA (setA m v ⟨t, [], part, [], []⟩) part vs ts
  | _, _ => m
theorem lay_snoc (part : Int) : ∀ (vs : List Vx) (ts : List (List UInt8)) (m : At) (v : Vx) (t : List UInt8), vs.length = ts.length → layA m part (vs ++ [v]) (ts ++ [t]) = setA (layA m part vs ts) v ⟨t, [], part, [], []⟩
  | [], [], m, v, t, _ => rfl
  | [], _ :: _, m, v, t, h => by cases h
  | _ :: _, [], m, v, t, h => by cases h
  | a :: vs, b :: ts, m, v, t, h => lay_snoc part vs ts _ v t (by simpa using h)
theorem Sz.lay {k : Nat} (part : Int) : ∀ (vs : List Vx) (ts : List (List UInt8)) {m : At}, Sz m k → Sz (layA m part vs ts) k
  | [], _, m, h => by unfold layA; exact h
  | _ :: _, [], m, h => by unfold layA; exact h
  | v :: vs, t :: ts, m, h => Sz.lay part vs ts fun x => by
    rw [atG_set]
    split
    · exact ⟨Nat.zero_le _, Nat.zero_le _⟩
    · exact h x
def addE (m : At) (up down : Vx) (ids : List Vx) (ts : List (List UInt8)) (t : Bool) : Nat :=
  if (wrongB ids || !decide ((ts.length : Int) = ids.length)) = true then 2 else if ids.any (fun v => (lookA m v).isSome) = true then 110 else if (!(lookA m up).isSome || !(lookA m down).isSome) = true then 111 else if (!t) = true then 112 else if 512 < (m.length : Int) - 2 + ids.length then 3 else 0
def addM (m : At) (part : Int) (up down : Vx) (ids : List Vx) (ts : List (List UInt8)) : At := chainF stepA (layA m part ids ts) up ids down
theorem gP_set (mb : Nat) (q : Ps) (a : Int) (x : Pt) : Atom.map mb (mp intK (setM (encM ptE q) a (ptE x))) = gP mb (setA q a x) := by rw [set_enc]
theorem lay_is (t : List UInt8) (n : Int) : Is (.agg [Str t, .raw (.slice none 0 0), i64 n, .raw (.slice none 0 0), .raw (.slice none 0 0)]) (lnE ⟨t, [], n, [], []⟩) := Is.agg rfl fun i x y hx hy => by
  match i, hx, hy with
  | 0, hx, hy => cases hx; cases hy; exact Is.rfl'
  | 1, hx, hy => cases hx; cases hy; exact (Is.nil 32).trans Is.unk
  | 2, hx, hy => cases hx; cases hy; exact Is.rfl'
  | 3, hx, hy => cases hx; cases hy; exact (Is.nil 33).trans Is.unk
  | 4, hx, hy => cases hx; cases hy; exact (Is.nil 33).trans Is.unk
end Go.Proofs.YtolpkeajokjbjaaDoor
namespace Go.Proofs.YtolpkeajokjbjaaDoor
open Go.RowKit Go.L
attribute [local irreducible] LL LW LO LP LA
abbrev z82 : Value := (.agg #[(.int .u8 0), (.int .u8 0), (.int .u8 0), (.int .u8 0), (.int .u8 0), (.int .u8 0), (.int .u8 0), (.int .u8 0), (.int .u8 0), (.int .u8 0), (.int .u8 0), (.int .u8 0), (.int .u8 0), (.int .u8 0), (.int .u8 0), (.int .u8 0), (.int .u8 0), (.int .u8 0), (.int .u8 0), (.int .u8 0), (.int .u8 0), (.int .u8 0), (.int .u8 0), (.int .u8 0), (.int .u8 0), (.int .u8 0), (.int .u8 0), (.int .u8 0), (.int .u8 0), (.int .u8 0), (.int .u8 0), (.int .u8 0), (.int .i64 0), (.int .u8 0), (.int .u8 0), (.int .u8 0), (.int .u8 0), (.int .u8 0), (.int .u8 0), (.int .u8 0), (.int .u8 0), (.int .u8 0), (.int .u8 0), (.int .u8 0), (.int .u8 0), (.int .u8 0), (.int .u8 0), (.int .u8 0), (.int .u8 0), (.int .u8 0), (.int .u8 0), (.int .u8 0), (.int .u8 0), (.int .u8 0), (.int .u8 0), (.int .u8 0), (.int .u8 0), (.int .u8 0), (.int .u8 0), (.int .u8 0), (.int .u8 0), (.int .u8 0), (.int .u8 0), (.int .u8 0), (.int .u8 0), (.int .i64 0), (.slice none 0 0)])
abbrev H5 (g ma mb : Nat) (n : Int) (m : At) (q : Ps) : List Atom := [gC g ma mb n, gA ma m, gP mb q, kb]
set_option maxHeartbeats 4000000 in
set_option maxRecDepth 100000 in
theorem add_calls (g ma mb : Nat) (n : Int) (m : At) (q : Ps) (up down : Vx) (ids : List Vx) (ts : List (List UInt8)) (k1 k2 : Cap) (t : Bool) (k : Nat) (hT : (allN m).length < 900000) (hz : Sz m k) (hk : k < 100000) (hm : m.length < 100000) (hn0 : 0 ≤ n) (hn : n < 100000) (hi : ids.length < 100000) (hts : ts.length < 100000) (ht : (lookA m up).isSome = true → (lookA m down).isSome = true → (t = true ↔ Rch (nx m) up down)) :
    LCalls Tryd.prog 11 [pt g, .agg (vxL up), .agg (vxL down), Vxs ids k1, .sl 1 (strsL ts) k2] (H5 g ma mb n m q) (fun r H' => r = i64 (addE m up down ids ts t : Nat) ∧ H' = if addE m up down ids ts t = 0 then H5 g ma mb (n + 1) (addM m (n + 1) up down ids ts) (setA q (n + 1) ⟨up, down, ids⟩) else H5 g ma mb n m q) := by
  have hul := vxL_len up
  have hdl := vxL_len down
  have hu32 : up.p.1.length = 32 := up.p.2
  have hd32 : down.p.1.length = 32 := down.p.2
  obtain ⟨E, hE⟩ : ∃ E, E = addE m up down ids ts t := ⟨_, rfl⟩
  rw [← hE]
  unfold addE at hE
  have hcf := (containsF_calls ids k1 _ (fun v => (lookA m v).isSome) [gC g ma mb n, gA ma m] (by omega) (fun v => has_fn g ma mb n m v)).mono (post' := fun r H' => r = bl (ids.any fun v => (lookA m v).isSome) ∧ H' = [gC g ma mb n, gA ma m]) fun r H' ⟨a, b⟩ => ⟨a, b.symm⟩
  refine LCalls.of Tryd.func11 rfl Tryd.ntmps11 Tryd.results11 rfl (fun Rf => ?_)
  refine LW.seq ?_
  refine LW.region ?_
  refine X.act (X.box rfl Is.rfl' (by exact Cells.agg) (fun b6 => ?_))
  refine X.act (X.box rfl Is.rfl' (by exact Cells.agg) (fun b7 => ?_))
  refine X.u (LU.assignR Is.rfl') rfl ?_
  refine LL.nil (after_code ?_)
  refine LW.seq ?_
  refine LW.block ?_
  refine LW.seq ?_
  refine LW.region ?_
  refine X.u (LU.moveR Is.rfl') rfl ?_
  refine X.u (LU.callP (show List.Perm _ ([gC g ma mb n] ++ (.cells b7 35 (vxL down) :: .cells b6 35 (vxL up) :: gA ma m :: gP mb q :: kb :: Rf)) from perm_of fun x => (by simp only [List.count_append, List.count_cons, List.count_nil]; omega)) (none_calls g ma mb n) Tryd.func33 rfl rfl (Opds.cons Is.rfl' Opds.nil)) rfl ?_
  refine X.u (LU.assignR Is.rfl') rfl ?_
  refine LL.nil (after_code ?_)
  refine X.condF rfl ?_ ?_
  · rfl
  refine LW.seq ?_
  refine LW.region ?_
  refine X.u (LU.moveS Is.rfl') rfl ?_
  refine X.u (LU.callP (show List.Perm _ ([kb] ++ (.cells b7 35 (vxL down) :: .cells b6 35 (vxL up) :: gC g ma mb n :: gA ma m :: gP mb q :: Rf)) from perm_of fun x => (by simp only [List.count_append, List.count_cons, List.count_nil]; omega)) (wrong_calls ids k1 (by omega)) Tryd.func34 rfl rfl (Opds.cons Is.rfl' Opds.nil)) rfl ?_
  refine X.u (LU.moveR Is.rfl') rfl ?_
  refine X.gF rfl rfl (fun hg => LU.moveS (by exact Is.rfl')) rfl ?_
  refine X.gF rfl rfl (fun hg => LU.lenN Tryd.underlying25 (by exact Is.whenN hg) (by (simp only [Option.getD_some, Option.getD_none, byteEls_length, intEls_length, List.length_append, List.length_cons, List.length_nil, List.length_map, List.length_drop, List.length_take, Int.toNat_natCast]; rfl))) rfl ?_
  refine X.gF rfl rfl (fun hg => LU.moveS (by exact Is.rfl')) rfl ?_
  refine X.gF rfl rfl (fun hg => LU.lenN Tryd.underlying26 (by exact Is.whenN hg) (by (simp only [Option.getD_some, Option.getD_none, byteEls_length, intEls_length, List.length_append, List.length_cons, List.length_nil, List.length_map, List.length_drop, List.length_take, Int.toNat_natCast]; rfl))) rfl ?_
  refine X.gF rfl rfl (fun hg => LU.neq (by exact Is.whenN hg) (by exact Is.whenN hg)) rfl ?_
  refine X.u (LU.pickOr Is.rfl' Is.rfl' (fun hq => (by exact Is.whenN hq))) rfl ?_
  refine X.u (LU.assignR Is.rfl') rfl ?_
  refine LL.nil (after_code ?_)
  refine X.cond rfl (fun h3 => ?_) (fun h3 => ?_)
  · have h3 : (wrongB ids || !decide ((ts.length : Int) = ids.length)) = true := by simpa using h3
    rw [if_pos h3] at hE
    refine LW.seq ?_
    refine LW.region ?_
    refine X.u (LU.assignR Is.rfl') rfl ?_
    refine LL.nil (after_code ?_)
    refine LW.ret (ret_blk (ret_code (after_end ?_)))
    refine X.ret (H' := H5 g ma mb n m q) (Res.one (by exact IsR rfl)) (by repeat (first | exact HSub.refl _ | refine HSub.pick 2 rfl ?_ | refine HSub.drop ?_)) ?_
    exact ⟨by rw [hE]; rfl, by rw [hE, if_neg (by decide)]⟩
  · have h3 : (wrongB ids || !decide ((ts.length : Int) = ids.length)) = false := by simpa using h3
    rw [if_neg (by rw [h3]; decide)] at hE
    refine LW.seq ?_
    refine LW.region ?_
    refine X.u (LU.moveS Is.rfl') rfl ?_
    refine X.u (LU.moveR Is.rfl') rfl ?_
    refine X.u (LU.bound (Is.rfl')) rfl ?_
    refine X.u (LU.callP (show List.Perm _ ([gC g ma mb n, gA ma m] ++ (.cells b7 35 (vxL down) :: .cells b6 35 (vxL up) :: gP mb q :: kb :: Rf)) from perm_of fun x => (by simp only [List.count_append, List.count_cons, List.count_nil]; omega)) (hcf) Tryd.func35 rfl rfl (Opds.cons Is.rfl' (Opds.cons Is.rfl' Opds.nil))) rfl ?_
    refine X.u (LU.assignR Is.rfl') rfl ?_
    refine LL.nil (after_code ?_)
    refine X.cond rfl (fun h5 => ?_) (fun h5 => ?_)
    · rw [if_pos h5] at hE
      refine LW.seq ?_
      refine LW.region ?_
      refine X.u (LU.assignR Is.rfl') rfl ?_
      refine LL.nil (after_code ?_)
      refine LW.ret (ret_blk (ret_code (after_end ?_)))
      refine X.ret (H' := H5 g ma mb n m q) (Res.one (by exact IsR rfl)) (by repeat (first | exact HSub.refl _ | refine HSub.pick 2 rfl ?_ | refine HSub.drop ?_)) ?_
      exact ⟨by rw [hE]; rfl, by rw [hE, if_neg (by decide)]⟩
    · rw [if_neg (by rw [h5]; decide)] at hE
      refine LW.seq ?_
      refine LW.region ?_
      refine X.u (LU.moveR Is.rfl') rfl ?_
      refine X.u (LU.loadO 1 rfl ⟨Tryd.sizeOf35, Tryd.isAgg35⟩ Is.rfl' (Part.whole (by assumption))) rfl ?_
      refine X.u (LU.callP (show List.Perm _ ([gC g ma mb n, gA ma m] ++ (.cells b7 35 (vxL down) :: .cells b6 35 (vxL up) :: gP mb q :: kb :: Rf)) from perm_of fun x => (by simp only [List.count_append, List.count_cons, List.count_nil]; omega)) (has_calls g ma mb n m up) Tryd.func20 rfl rfl (Opds.cons Is.rfl' (Opds.cons Is.rfl' Opds.nil))) rfl ?_
      refine X.u (LU.not Is.rfl') rfl ?_
      refine X.u (LU.moveR Is.rfl') rfl ?_
      refine X.gF rfl rfl (fun hg => LU.moveR (by exact Is.rfl')) rfl ?_
      refine X.gF rfl rfl (fun hg => LU.loadO 0 rfl ⟨Tryd.sizeOf35, Tryd.isAgg35⟩ (by exact Is.rfl') (Part.whole (by assumption))) rfl ?_
      refine X.gF rfl rfl (fun hg => LU.callP (show List.Perm _ ([gC g ma mb n, gA ma m] ++ (.cells b7 35 (vxL down) :: .cells b6 35 (vxL up) :: gP mb q :: kb :: Rf)) from perm_of fun x => (by simp only [List.count_append, List.count_cons, List.count_nil]; omega)) (has_calls g ma mb n m down) Tryd.func20 rfl rfl (Opds.cons (by exact Is.whenN hg) (Opds.cons (by exact Is.whenN hg) Opds.nil))) rfl ?_
      refine X.gF rfl rfl (fun hg => LU.not (by exact Is.whenN hg)) rfl ?_
      refine X.u (LU.pickOr Is.rfl' Is.rfl' (fun hq => (by exact Is.whenN hq))) rfl ?_
      refine X.u (LU.assignR Is.rfl') rfl ?_
      refine LL.nil (after_code ?_)
      refine X.cond rfl (fun h7 => ?_) (fun h7 => ?_)
      · have h7 : (!(lookA m up).isSome || !(lookA m down).isSome) = true := by simpa using h7
        rw [if_pos h7] at hE
        refine LW.seq ?_
        refine LW.region ?_
        refine X.u (LU.assignR Is.rfl') rfl ?_
        refine LL.nil (after_code ?_)
        refine LW.ret (ret_blk (ret_code (after_end ?_)))
        refine X.ret (H' := H5 g ma mb n m q) (Res.one (by exact IsR rfl)) (by repeat (first | exact HSub.refl _ | refine HSub.pick 2 rfl ?_ | refine HSub.drop ?_)) ?_
        exact ⟨by rw [hE]; rfl, by rw [hE, if_neg (by decide)]⟩
      · have h7 : (!(lookA m up).isSome || !(lookA m down).isSome) = false := by simpa using h7
        rw [if_neg (by rw [h7]; decide)] at hE
        have h7b : (lookA m up).isSome = true ∧ (lookA m down).isSome = true := by simpa using h7
        refine LW.seq ?_
        refine LW.region ?_
        refine X.u (LU.moveR Is.rfl') rfl ?_
        refine X.u (LU.loadO 1 rfl ⟨Tryd.sizeOf35, Tryd.isAgg35⟩ Is.rfl' (Part.whole (by assumption))) rfl ?_
        refine X.u (LU.loadO 0 rfl ⟨Tryd.sizeOf35, Tryd.isAgg35⟩ Is.rfl' (Part.whole (by assumption))) rfl ?_
        refine X.u (LU.callP (show List.Perm _ ([gC g ma mb n, gA ma m] ++ (.cells b7 35 (vxL down) :: .cells b6 35 (vxL up) :: gP mb q :: kb :: Rf)) from perm_of fun x => (by simp only [List.count_append, List.count_cons, List.count_nil]; omega)) (ahead_calls g ma mb n m up down t hT (fun v => Nat.lt_of_le_of_lt (hz v).1 (by omega)) ⟨fun e => ⟨h7b.1, h7b.2, (ht h7b.1 h7b.2).1 e⟩, fun e => (ht h7b.1 h7b.2).2 e.2.2⟩) Tryd.func21 rfl rfl (Opds.cons Is.rfl' (Opds.cons Is.rfl' (Opds.cons Is.rfl' Opds.nil)))) rfl ?_
        refine X.u (LU.not Is.rfl') rfl ?_
        refine X.u (LU.assignR Is.rfl') rfl ?_
        refine LL.nil (after_code ?_)
        refine X.cond rfl (fun h9 => ?_) (fun h9 => ?_)
        · rw [if_pos h9] at hE
          refine LW.seq ?_
          refine LW.region ?_
          refine X.u (LU.assignR Is.rfl') rfl ?_
          refine LL.nil (after_code ?_)
          refine LW.ret (ret_blk (ret_code (after_end ?_)))
          refine X.ret (H' := H5 g ma mb n m q) (Res.one (by exact IsR rfl)) (by repeat (first | exact HSub.refl _ | refine HSub.pick 2 rfl ?_ | refine HSub.drop ?_)) ?_
          exact ⟨by rw [hE]; rfl, by rw [hE, if_neg (by decide)]⟩
        · rw [if_neg (by rw [h9]; decide)] at hE
          refine LW.seq ?_
          refine LW.region ?_
          refine X.u (LU.moveR Is.rfl') rfl ?_
          refine X.u (LU.callP (show List.Perm _ ([gC g ma mb n, gA ma m] ++ (.cells b7 35 (vxL down) :: .cells b6 35 (vxL up) :: gP mb q :: kb :: Rf)) from perm_of fun x => (by simp only [List.count_append, List.count_cons, List.count_nil]; omega)) (len_calls g ma mb n m (by omega)) Tryd.func19 rfl rfl (Opds.cons Is.rfl' Opds.nil)) rfl ?_
          refine X.u (LU.moveS Is.rfl') rfl ?_
          refine X.u (LU.lenN Tryd.underlying26 Is.rfl' (by (simp only [Option.getD_some, Option.getD_none, byteEls_length, intEls_length, List.length_append, List.length_cons, List.length_nil, List.length_map, List.length_drop, List.length_take, Int.toNat_natCast]; rfl))) rfl ?_
          refine X.u (LU.addN Is.rfl' Is.rfl' (wrap_i64 (by omega) (by omega))) rfl ?_
          refine X.u (LU.gtr Is.rfl' Is.rfl') rfl ?_
          refine X.u (LU.assignR Is.rfl') rfl ?_
          refine LL.nil (after_code ?_)
          refine X.cond rfl (fun h11 => ?_) (fun h11 => ?_)
          · have h11 : 512 < (m.length : Int) - 2 + ids.length := by have := of_decide_eq_true h11; omega
            rw [if_pos h11] at hE
            refine LW.seq ?_
            refine LW.region ?_
            refine X.u (LU.assignR Is.rfl') rfl ?_
            refine LL.nil (after_code ?_)
            refine LW.ret (ret_blk (ret_code (after_end ?_)))
            refine X.ret (H' := H5 g ma mb n m q) (Res.one (by exact IsR rfl)) (by repeat (first | exact HSub.refl _ | refine HSub.pick 2 rfl ?_ | refine HSub.drop ?_)) ?_
            exact ⟨by rw [hE]; rfl, by rw [hE, if_neg (by decide)]⟩
          · have h11 : ¬ 512 < (m.length : Int) - 2 + ids.length := by have := of_decide_eq_false h11; omega
            rw [if_neg h11] at hE
            have htl : ts.length = ids.length := by simp at h3; omega
            refine LW.skip (after_blk (after_code ?_))
            refine LW.seq ?_
            refine LW.region ?_
            refine X.u (LU.moveR Is.rfl') rfl ?_
            refine X.u (LU.nilCheck Is.rfl') rfl ?_
            refine X.u (LU.fieldO Tryd.underlying68 rfl Tryd.sizeOf3 (by decide) Is.rfl') rfl ?_
            refine X.u (LU.loadO 2 rfl ⟨Tryd.sizeOf3, Tryd.isAgg3⟩ Is.rfl' (Part.one rfl)) rfl ?_
            refine X.u (LU.addN Is.rfl' Is.rfl' (wrap_i64 (by omega) (by omega))) rfl ?_
            refine X.u (LU.nilCheck Is.rfl') rfl ?_
            refine X.u (LU.fieldO Tryd.underlying68 rfl Tryd.sizeOf3 (by decide) Is.rfl') rfl ?_
            refine X.act (X.store 2 rfl Tryd.sizeOf3 Is.rfl' Is.rfl' (by exact Cells.raw rfl) (by (simp; done)) (by (simp; done)) ?_)
            refine LL.nil (after_code ?_)
            refine LW.seq ?_
            refine X.wcells (ys := [.raw (.map (some ma)), .raw (.map (some mb)), i64 (n + 1)]) rfl ?_
            refine LW.invM (m := 6) (γ := Nat × Nat × Nat × Nat) [(0, 63), (1, 64), (2, 65), (3, 66), (4, 67), (5, 11)] (fun g_ d => match g_ with | ⟨c_, q1, q2, q3⟩ => match d with | 63 => .agg (vxL up) | 64 => .agg (vxL down) | 65 => Vxs ids k1 | 66 => Vxs ids .unk | 67 => ptE ⟨up, down, ids⟩ | 11 => pt c_ | _ => .any) (fun g_ f => match g_ with | ⟨c_, q1, q2, q3⟩ => cond (f 5) (.cells c_ 82 (raws z82.cells.toList)) (.tail 0 0 0) :: cond (f 3) (.tail q1 q2 q3) (.tail 0 0 0) :: .cells b7 35 (vxL down) :: .cells b6 35 (vxL up) :: gC g ma mb (n + 1) :: gA ma m :: gP mb q :: kb :: Rf) (0, 0, 0, 0) rfl (by kernel_rfl) rfl rfl ((HSub.trans (by repeat (first | exact HSub.refl _ | refine HSub.pick 1 rfl ?_)) (HSub.trans (HSub.tail0 0 0 0 (Nat.le_refl _) _) (HSub.tail0 0 0 0 (Nat.le_refl _) _)))) ?_ ?_
            · intro i hi f g_ hfi hdir hdown
              obtain ⟨c_, q1, q2, q3⟩ := g_
              have hc : i = 0 ∨ i = 1 ∨ i = 2 ∨ i = 3 ∨ i = 4 ∨ i = 5 := by omega
              rcases hc with rfl | rfl | rfl | rfl | rfl | rfl
              · refine ⟨_, rfl, ?_⟩
                refine A.u (LU.loadO 3 rfl ⟨Tryd.sizeOf35, Tryd.isAgg35⟩ Is.rfl' (Part.whole (by assumption))) rfl ?_
                refine ⟨⟨c_, q1, q2, q3⟩, Weaker.mk' ?_ (HSub.refl _)⟩
                refine env_back0 (envS_hit (sl := [(0, 63), (1, 64), (2, 65), (3, 66), (4, 67), (5, 11)]) (j := 0) (d := 63) rfl (fun _ _ h => h))  (envS_next ?_)
                · intro p hp hne; simp only [List.mem_cons, List.not_mem_nil, or_false] at hp; rcases hp with rfl | rfl | rfl | rfl | rfl | rfl <;> first | exact absurd rfl hne | exact ⟨rfl, rfl⟩
              · refine ⟨_, rfl, ?_⟩
                refine A.u (LU.loadO 2 rfl ⟨Tryd.sizeOf35, Tryd.isAgg35⟩ Is.rfl' (Part.whole (by assumption))) rfl ?_
                refine ⟨⟨c_, q1, q2, q3⟩, Weaker.mk' ?_ (HSub.refl _)⟩
                refine env_back0 (envS_hit (sl := [(0, 63), (1, 64), (2, 65), (3, 66), (4, 67), (5, 11)]) (j := 1) (d := 64) rfl (fun _ _ h => h))  (envS_next ?_)
                · intro p hp hne; simp only [List.mem_cons, List.not_mem_nil, or_false] at hp; rcases hp with rfl | rfl | rfl | rfl | rfl | rfl <;> first | exact absurd rfl hne | exact ⟨rfl, rfl⟩
              · refine ⟨_, rfl, ?_⟩
                refine A.u (LU.moveS Is.rfl') rfl ?_
                refine ⟨⟨c_, q1, q2, q3⟩, Weaker.mk' ?_ (HSub.refl _)⟩
                refine env_back0 (envS_hit (sl := [(0, 63), (1, 64), (2, 65), (3, 66), (4, 67), (5, 11)]) (j := 2) (d := 65) rfl (fun _ _ h => h))  (envS_next ?_)
                · intro p hp hne; simp only [List.mem_cons, List.not_mem_nil, or_false] at hp; rcases hp with rfl | rfl | rfl | rfl | rfl | rfl <;> first | exact absurd rfl hne | exact ⟨rfl, rfl⟩
              · have d2 := hdir 2 (List.mem_of_elem_eq_true (by kernel_rfl))
                refine ⟨_, rfl, ?_⟩
                refine LP.ghost (H' := cond (f 5) (.cells c_ 82 (raws z82.cells.toList)) (.tail 0 0 0) :: .cells b7 35 (vxL down) :: .cells b6 35 (vxL up) :: gC g ma mb (n + 1) :: gA ma m :: gP mb q :: kb :: Rf) (by show L.HSub (_ :: cond (f 3) _ _ :: _) _; rw [hfi]; exact HSub.cons (HSub.drop (HSub.refl _))) ?_
                refine LP.weak (t := 65) (v := Vxs ids k1) (envS_is (j := 2) rfl d2) ?_
                refine A.act (X.call (clone_calls ids k1 (by omega)) Tryd.func36 rfl rfl rfl (HSub.refl _) (Opds.cons Is.rfl' Opds.nil) ?_)
                rintro r H' ⟨b66, o66, c66, rfl, rfl⟩
                refine ⟨(c_, b66, o66, c66), Weaker.mk' ?_ (HSub.pick 1 rfl (HSub.refl _))⟩
                refine env_back1 (envS_hit (sl := [(0, 63), (1, 64), (2, 65), (3, 66), (4, 67), (5, 11)]) (j := 3) (d := 66) rfl (Is.unk)) (envS_hit (sl := [(0, 63), (1, 64), (2, 65), (3, 66), (4, 67), (5, 11)]) (j := 2) (d := 65) rfl (fun _ _ h => h)) (envS_next ?_)
                · intro p hp hne; simp only [List.mem_cons, List.not_mem_nil, or_false] at hp; rcases hp with rfl | rfl | rfl | rfl | rfl | rfl <;> first | exact absurd rfl hne | exact ⟨rfl, rfl⟩
              · have d0 := hdir 0 (List.mem_of_elem_eq_true (by kernel_rfl))
                have d1 := hdir 1 (List.mem_of_elem_eq_true (by kernel_rfl))
                have d3 := hdir 3 (List.mem_of_elem_eq_true (by kernel_rfl))
                refine ⟨_, rfl, ?_⟩
                refine LP.weak (t := 63) (v := .agg (vxL up)) (envS_is (j := 0) rfl d0) ?_
                refine LP.weak (t := 64) (v := .agg (vxL down)) (envS_is (j := 1) rfl d1) ?_
                refine LP.weak (t := 66) (v := Vxs ids .unk) (envS_is (j := 3) rfl d3) ?_
                refine A.u (LU.build (places := #[(0, 33), (33, 33), (66, 1)]) Tryd.underlying82 Tryd.zeroValue82 (ones rfl) (by intro w; simp [Tryd.sizeOf26, Tryd.sizeOf35]) (Parts.cons Is.rfl' (by exact Cells.agg) (Parts.cons Is.rfl' (by exact Cells.agg) (Parts.cons Is.rfl' (by exact Cells.sl) Parts.nil))) (laid_pt hul hdl rfl)) rfl ?_
                refine ⟨⟨c_, q1, q2, q3⟩, Weaker.mk' ?_ (HSub.refl _)⟩
                refine env_back3 (envS_hit (sl := [(0, 63), (1, 64), (2, 65), (3, 66), (4, 67), (5, 11)]) (j := 4) (d := 67) rfl (fun _ _ h => h)) (envS_hit (sl := [(0, 63), (1, 64), (2, 65), (3, 66), (4, 67), (5, 11)]) (j := 3) (d := 66) rfl (fun _ _ h => h)) (envS_hit (sl := [(0, 63), (1, 64), (2, 65), (3, 66), (4, 67), (5, 11)]) (j := 1) (d := 64) rfl (fun _ _ h => h)) (envS_hit (sl := [(0, 63), (1, 64), (2, 65), (3, 66), (4, 67), (5, 11)]) (j := 0) (d := 63) rfl (fun _ _ h => h)) (envS_next ?_)
                · intro p hp hne; simp only [List.mem_cons, List.not_mem_nil, or_false] at hp; rcases hp with rfl | rfl | rfl | rfl | rfl | rfl <;> first | exact absurd rfl hne | exact ⟨rfl, rfl⟩
              · refine ⟨_, rfl, ?_⟩
                refine LP.ghost (H' := cond (f 3) (.tail q1 q2 q3) (.tail 0 0 0) :: .cells b7 35 (vxL down) :: .cells b6 35 (vxL up) :: gC g ma mb (n + 1) :: gA ma m :: gP mb q :: kb :: Rf) (by show L.HSub (cond (f 5) _ _ :: _) _; rw [hfi]; exact HSub.drop (HSub.refl _)) ?_
                refine A.act (X.alloc rfl Tryd.zeroValue82 (by exact Cells.rawagg (by decide)) (fun b11 => ?_))
                refine ⟨(b11, q1, q2, q3), Weaker.mk' ?_ (HSub.refl _)⟩
                refine env_back0 (envS_hit (sl := [(0, 63), (1, 64), (2, 65), (3, 66), (4, 67), (5, 11)]) (j := 5) (d := 11) rfl (fun _ _ h => h))  (envS_next ?_)
                · intro p hp hne; simp only [List.mem_cons, List.not_mem_nil, or_false] at hp; rcases hp with rfl | rfl | rfl | rfl | rfl | rfl <;> first | exact absurd rfl hne | exact ⟨rfl, rfl⟩
            · intro g_ f hf_
              obtain ⟨c_, q1, q2, q3⟩ := g_
              refine X.ghost (H' := .cells c_ 82 (raws z82.cells.toList) :: .cells b7 35 (vxL down) :: .cells b6 35 (vxL up) :: gC g ma mb (n + 1) :: gA ma m :: gP mb q :: kb :: Rf) (by show L.HSub (cond (f 5) _ _ :: _) _; rw [hf_ 5 (by omega)]; exact HSub.cons (HSub.drop (HSub.refl _))) ?_
              refine X.act (X.store 0 rfl Tryd.sizeOf82 Is.rfl' Is.rfl' (by exact Cells.agg) (by (simp; omega)) (by exact Nat.le_of_ble_eq_true rfl) ?_)
              refine LL.nil (after_code ?_)
              refine LW.seq ?_
              have hpl := pt_len ⟨up, down, ids⟩
              refine X.wcells (ys := ptL ⟨up, down, ids⟩) (putAt_all (by rw [hpl]; rfl)) ?_
              refine X.drawM 9 rfl (by kernel_rfl) rfl ?_
              refine QD.u (LU.moveR Is.rfl') rfl ?_
              refine QD.u (LU.nilCheck Is.rfl') rfl ?_
              refine QD.u (LU.fieldO Tryd.underlying68 rfl Tryd.sizeOf66 (by decide) Is.rfl') rfl ?_
              refine QD.u (LU.loadO 3 rfl ⟨Tryd.sizeOf66, Tryd.isAgg66⟩ Is.rfl' (Part.one rfl)) rfl ?_
              refine QD.u (LU.moveR Is.rfl') rfl ?_
              refine QD.u (LU.nilCheck Is.rfl') rfl ?_
              refine QD.u (LU.fieldO Tryd.underlying68 rfl Tryd.sizeOf3 (by decide) Is.rfl') rfl ?_
              refine QD.u (LU.loadO 3 rfl ⟨Tryd.sizeOf3, Tryd.isAgg3⟩ Is.rfl' (Part.one rfl)) rfl ?_
              refine QD.u (LU.loadO 0 rfl ⟨Tryd.sizeOf82, Tryd.isAgg82⟩ Is.rfl' (Part.whole (by assumption))) rfl ?_
              refine QD.nil ?_
              refine X.act (LO.mapUpdate (st := ⟨_, _, _⟩) 5 (KeyOk.int Tryd.underlying3) rfl Tryd.underlying66 Is.rfl' Is.rfl' Is.rfl' ?_)
              refine LL.nil (after_code ?_)
              refine LW.seq ?_
              refine LW.seq ?_
              refine X.wghost (H' := .cells c_ 82 (ptL ⟨up, down, ids⟩) :: .cells b7 35 (vxL down) :: .cells b6 35 (vxL up) :: gC g ma mb (n + 1) :: gA ma m :: gP mb (setA q (n + 1) ⟨up, down, ids⟩) :: kb :: Rf) (by rw [← gP_set]; exact (by repeat (first | exact HSub.refl _ | refine HSub.pick 1 rfl ?_))) ?_
              refine LW.region ?_
              refine X.u (LU.moveS Is.rfl') rfl ?_
              refine X.u (LU.lenN Tryd.underlying26 Is.rfl' (by (simp only [Option.getD_some, Option.getD_none, byteEls_length, intEls_length, List.length_append, List.length_cons, List.length_nil, List.length_map, List.length_drop, List.length_take, Int.toNat_natCast]; rfl))) rfl ?_
              refine X.u (LU.moveR Is.rfl') rfl ?_
              refine LL.nil (after_code ?_)
              refine LW.block ?_
              refine X.loopK (α := Nat) (fun i => [(79, i64 i)]) [0, 4, 10, 11, 77, 78] (fun i => .cells c_ 82 (ptL ⟨up, down, ids⟩) :: .cells b7 35 (vxL down) :: .cells b6 35 (vxL up) :: gC g ma mb (n + 1) :: gA ma (layA m (n + 1) (ids.take i) (ts.take i)) :: gP mb (setA q (n + 1) ⟨up, down, ids⟩) :: kb :: Rf) (fun i => i ≤ ids.length) (fun i => ids.length - i) (0) (EnvLe.cons (by rfl) (EnvLe.nil)) (by repeat (exact HSub.refl _)) ?_ ?_
              · exact Nat.zero_le _
              · rintro i hI
                refine LW.seq ?_
                refine LW.region ?_
                refine X.u (LU.lss Is.rfl' Is.rfl') rfl ?_
                refine LL.nil (after_code ?_)
                refine LW.seq ?_
                refine X.cond rfl (fun h17 => ?_) (fun h17 => ?_)
                · try have h17 := of_decide_eq_true h17
                  refine LW.skip (after_code ?_)
                  refine LW.seq ?_
                  refine LW.block ?_
                  refine LW.seq ?_
                  obtain ⟨v, hv⟩ := at_lt (show i < ids.length by omega)
                  obtain ⟨x, hx⟩ := at_lt (show i < ts.length by omega)
                  have hvl := vxL_len v
                  have hv32 : v.p.1.length = 32 := v.p.2
                  have hlay : layA m (n + 1) (ids.take (i + 1)) (ts.take (i + 1)) = setA (layA m (n + 1) (ids.take i) (ts.take i)) v ⟨x, [], n + 1, [], []⟩ := by
                    rw [take_snoc hv, take_snoc hx]
                    exact lay_snoc (n + 1) _ _ _ _ _ (by rw [List.length_take, List.length_take]; omega)
                  refine LW.region ?_
                  refine X.u (LU.moveR Is.rfl') rfl ?_
                  refine X.u (LU.at Tryd.underlying26 ⟨Tryd.sizeOf35, Tryd.isAgg35⟩ Is.rfl' Is.rfl' (by omega) (vxs_at hv) (vx_ne v)) rfl ?_
                  refine X.u (LU.weak (LU.load ⟨Tryd.sizeOf35, Tryd.isAgg35⟩ Is.rfl' (by assumption) (Part.whole (by assumption))) (Is.of (y := .agg (vxL v)) (rfl))) rfl ?_
                  refine X.act (X.alloc rfl Tryd.zeroValue35 (by exact Cells.rawagg (by decide)) (fun b13 => ?_))
                  refine X.u (LU.assignR Is.rfl') rfl ?_
                  refine X.act (X.store 0 rfl Tryd.sizeOf35 Is.rfl' Is.rfl' (by exact Cells.agg) (by assumption) (by exact Nat.le_of_ble_eq_true rfl) ?_)
                  refine LL.nil (after_code ?_)
                  refine X.wcells (ys := vxL v) (putAt_all (by rw [hvl]; rfl)) ?_
                  refine X.drawM 14 rfl (by kernel_rfl) rfl ?_
                  refine QD.u (LU.moveR Is.rfl') rfl ?_
                  refine QD.u (LU.nilCheck Is.rfl') rfl ?_
                  refine QD.u (LU.fieldO Tryd.underlying68 rfl Tryd.sizeOf65 (by decide) Is.rfl') rfl ?_
                  refine QD.u (LU.loadO 4 rfl ⟨Tryd.sizeOf65, Tryd.isAgg65⟩ Is.rfl' (Part.one rfl)) rfl ?_
                  refine QD.u (LU.loadO 0 rfl ⟨Tryd.sizeOf35, Tryd.isAgg35⟩ Is.rfl' (Part.whole (by assumption))) rfl ?_
                  refine QD.u (LU.moveS Is.rfl') rfl ?_
                  refine QD.u (LU.moveR Is.rfl') rfl ?_
                  refine QD.u (LU.at Tryd.underlying25 ⟨Tryd.sizeOf9, Tryd.isAgg9⟩ Is.rfl' Is.rfl' (by omega) (strsL_at hx) (by simp)) rfl ?_
                  refine QD.u (LU.load ⟨Tryd.sizeOf9, Tryd.isAgg9⟩ Is.rfl' (by (simp; done)) (Part.one rfl)) rfl ?_
                  refine QD.u (LU.moveR Is.rfl') rfl ?_
                  refine QD.u (LU.nilCheck Is.rfl') rfl ?_
                  refine QD.u (LU.fieldO Tryd.underlying68 rfl Tryd.sizeOf3 (by decide) Is.rfl') rfl ?_
                  refine QD.u (LU.loadO 4 rfl ⟨Tryd.sizeOf3, Tryd.isAgg3⟩ Is.rfl' (Part.one rfl)) rfl ?_
                  refine QD.u (LU.weak (LU.build (places := #[(0, 1), (1, 1), (2, 1), (3, 1), (4, 1)]) Tryd.underlying73 Tryd.zeroValue73 (ones rfl) (by intro w; simp [Tryd.sizeOf26, Tryd.sizeOf3, Tryd.sizeOf71, Tryd.sizeOf9]) (Parts.cons Is.rfl' (by exact Cells.raw rfl) (Parts.cons Is.rfl' (by exact Cells.raw rfl) Parts.nil)) rfl) (lay_is x (n + 1))) rfl ?_
                  refine QD.nil ?_
                  refine X.act (LO.mapUpdate (st := ⟨_, _, _⟩) 5 (KeyOk.vx vxty) rfl Tryd.underlying65 Is.rfl' (by exact Is.vx _) Is.rfl' ?_)
                  refine LL.nil (after_blk (after_code ?_))
                  refine X.wghost (H' := .cells c_ 82 (ptL ⟨up, down, ids⟩) :: .cells b7 35 (vxL down) :: .cells b6 35 (vxL up) :: gC g ma mb (n + 1) :: gA ma (layA m (n + 1) (ids.take (i + 1)) (ts.take (i + 1))) :: gP mb (setA q (n + 1) ⟨up, down, ids⟩) :: kb :: Rf) (by rw [hlay, ← gA_set]; exact (by repeat (first | exact HSub.refl _ | refine HSub.pick 0 rfl ?_ | refine HSub.pick 1 rfl ?_ | refine HSub.pick 2 rfl ?_ | refine HSub.drop ?_))) ?_
                  refine LW.region ?_
                  refine X.u (LU.addN Is.rfl' Is.rfl' (wrap_i64 (by omega) (by omega))) rfl ?_
                  refine X.u (LU.moveR Is.rfl') rfl ?_
                  refine LL.nil (after_rnd ?_)
                  refine X.next (i + 1) rfl (EnvLe.cons (by rfl) (EnvLe.nil)) (Keeps.cons (by exact Eq.trans (b := .raw _) rfl rfl) (Keeps.cons (by exact Eq.trans (b := .sl _ _ _) rfl rfl) (Keeps.cons (by exact Eq.trans (b := .raw _) rfl rfl) (Keeps.cons (by exact Eq.trans (b := .raw _) rfl rfl) (Keeps.cons (by exact Eq.trans (b := .sl _ _ _) rfl rfl) (Keeps.cons (by exact Eq.trans (b := .raw _) rfl rfl) (Keeps.nil))))))) (by repeat (exact HSub.refl _)) ?_ ?_
                  · omega
                  · omega
                · try have h17 := of_decide_eq_false h17
                  refine LW.exit (exit_code (exit_rnd (exit_blk (after_code ?_))))
                  refine LW.seq ?_
                  have hil : i = ids.length := by omega
                  have hpl2 := pt_len ⟨up, down, ids⟩
                  rw [hil, List.take_length, List.take_of_length_le (by omega)]
                  have hch := chain_step g ma mb (n + 1) (layA m (n + 1) ids ts) ⟨up, down, ids⟩ k (Sz.lay (n + 1) ids ts hz) (show ids.length < _ by omega) (by omega)
                  refine X.wghost (H' := gC g ma mb (n + 1) :: gA ma (layA m (n + 1) ids ts) :: .cells c_ 82 (ptL ⟨up, down, ids⟩) :: gP mb (setA q (n + 1) ⟨up, down, ids⟩) :: kb :: Rf) (by repeat (first | exact HSub.refl _ | refine HSub.pick 0 rfl ?_ | refine HSub.pick 2 rfl ?_ | refine HSub.pick 3 rfl ?_ | refine HSub.drop ?_)) ?_
                  refine LW.region ?_
                  refine X.u (LU.loadO 2 rfl ⟨Tryd.sizeOf82, Tryd.isAgg82⟩ Is.rfl' (Part.whole (by assumption))) rfl ?_
                  refine X.u (LU.moveR Is.rfl') rfl ?_
                  refine X.u (LU.bound (Is.rfl')) rfl ?_
                  refine X.act (X.call (hch) Tryd.func37 rfl rfl rfl (HSub.refl _) (Opds.cons Is.rfl' (Opds.cons Is.rfl' Opds.nil)) ?_)
                  rintro r H' ⟨rfl, rfl, hsz⟩
                  refine LL.nil (after_code ?_)
                  refine LW.seq ?_
                  refine LW.region ?_
                  refine X.u (LU.assignR Is.rfl') rfl ?_
                  refine LL.nil (after_code ?_)
                  refine LW.ret (after_end ?_)
                  refine X.ret (H' := H5 g ma mb (n + 1) (addM m (n + 1) up down ids ts) (setA q (n + 1) ⟨up, down, ids⟩)) (Res.one (by exact IsR rfl)) (by repeat (first | exact HSub.refl _ | refine HSub.pick 0 rfl ?_ | refine HSub.pick 1 rfl ?_ | refine HSub.drop ?_)) ?_
                  exact ⟨by rw [hE]; rfl, by rw [hE, if_pos rfl]⟩
end Go.Proofs.YtolpkeajokjbjaaDoor
namespace Go.Proofs.YtolpkeajokjbjaaDoor
open Go.RowKit Go.L
attribute [local irreducible] LL LW LO LP LA
def woundE (m : At) (v : Vx) : Nat := if endsB v = true then 2 else if (lookA m v).isSome = true then 0 else 111
set_option maxRecDepth 100000 in
theorem wound_calls (g ma mb : Nat) (n : Int) (m : At) (v : Vx) : LCalls Tryd.prog 30 [pt g, .agg (vxL v)] [gC g ma mb n, gA ma m, kb] (fun r H' => r = i64 (woundE m v : Nat) ∧ H' = [gC g ma mb n, gA ma m, kb]) := by
  have hvl := vxL_len v
  refine LCalls.of Tryd.func30 rfl Tryd.ntmps30 Tryd.results30 rfl (fun Rf => ?_)
  refine LW.seq ?_
  refine LW.region ?_
  refine X.act (X.box rfl Is.rfl' (by exact Cells.agg) (fun b3 => ?_))
  refine X.u (LU.assignR Is.rfl') rfl ?_
  refine LL.nil (after_code ?_)
  refine LW.seq ?_
  refine LW.block ?_
  refine LW.seq ?_
  refine LW.region ?_
  refine X.u (LU.moveR Is.rfl') rfl ?_
  refine X.u (LU.callP (show List.Perm _ ([gC g ma mb n] ++ (.cells b3 35 (vxL v) :: gA ma m :: kb :: Rf)) from perm_of fun x => (by simp only [List.count_append, List.count_cons, List.count_nil]; omega)) (none_calls g ma mb n) Tryd.func33 rfl rfl (Opds.cons Is.rfl' Opds.nil)) rfl ?_
  refine X.u (LU.assignR Is.rfl') rfl ?_
  refine LL.nil (after_code ?_)
  refine X.condF rfl ?_ ?_
  · rfl
  refine LW.seq ?_
  refine LW.region ?_
  refine X.u (LU.loadO 0 rfl ⟨Tryd.sizeOf35, Tryd.isAgg35⟩ Is.rfl' (Part.whole (by assumption))) rfl ?_
  refine X.u (LU.callP (show List.Perm _ ([kb] ++ (.cells b3 35 (vxL v) :: gC g ma mb n :: gA ma m :: Rf)) from perm_of fun x => (by simp only [List.count_append, List.count_cons, List.count_nil]; omega)) (ends_calls v) Tryd.func53 rfl rfl (Opds.cons Is.rfl' Opds.nil)) rfl ?_
  refine X.u (LU.assignR Is.rfl') rfl ?_
  refine LL.nil (after_code ?_)
  refine X.cond rfl (fun h3 => ?_) (fun h3 => ?_)
  · try have h3 := of_decide_eq_true h3
    refine LW.seq ?_
    refine LW.region ?_
    refine X.u (LU.assignR Is.rfl') rfl ?_
    refine LL.nil (after_code ?_)
    refine LW.ret (ret_blk (ret_code (after_end ?_)))
    refine X.ret (H' := [gC g ma mb n, gA ma m, kb]) (Res.one (by exact IsR rfl)) (by repeat (first | exact HSub.refl _ | refine HSub.pick 1 rfl ?_ | refine HSub.drop ?_)) ?_
    exact ⟨by unfold woundE; rw [if_pos h3]; rfl, rfl⟩
  · try have h3 := of_decide_eq_false h3
    refine LW.seq ?_
    refine LW.region ?_
    refine X.u (LU.moveR Is.rfl') rfl ?_
    refine X.u (LU.loadO 0 rfl ⟨Tryd.sizeOf35, Tryd.isAgg35⟩ Is.rfl' (Part.whole (by assumption))) rfl ?_
    refine X.u (LU.callP (show List.Perm _ ([gC g ma mb n, gA ma m] ++ (.cells b3 35 (vxL v) :: kb :: Rf)) from perm_of fun x => (by simp only [List.count_append, List.count_cons, List.count_nil]; omega)) (has_calls g ma mb n m v) Tryd.func20 rfl rfl (Opds.cons Is.rfl' (Opds.cons Is.rfl' Opds.nil))) rfl ?_
    refine X.u (LU.not Is.rfl') rfl ?_
    refine X.u (LU.assignR Is.rfl') rfl ?_
    refine LL.nil (after_code ?_)
    refine X.cond rfl (fun h5 => ?_) (fun h5 => ?_)
    · have h5 : (lookA m v).isSome = false := by simpa using h5
      have hz0 : (0 : Nat) = 0 := rfl
      refine LW.seq ?_
      refine LW.region ?_
      refine X.u (LU.assignR Is.rfl') rfl ?_
      refine LL.nil (after_code ?_)
      refine LW.ret (ret_blk (ret_code (after_end ?_)))
      refine X.ret (H' := [gC g ma mb n, gA ma m, kb]) (Res.one (by exact IsR rfl)) (by repeat (first | exact HSub.refl _ | refine HSub.pick 1 rfl ?_ | refine HSub.drop ?_)) ?_
      exact ⟨by unfold woundE; rw [if_neg (by rw [h3]; decide), if_neg (by rw [h5]; decide)]; rfl, rfl⟩
    · have h5 : (lookA m v).isSome = true := by simpa using h5
      have hz0 : (0 : Nat) = 0 := rfl
      refine LW.skip (after_blk (after_code ?_))
      refine LW.seq ?_
      refine LW.region ?_
      refine X.u (LU.assignR Is.rfl') rfl ?_
      refine LL.nil (after_code ?_)
      refine LW.ret (after_end ?_)
      refine X.ret (H' := [gC g ma mb n, gA ma m, kb]) (Res.one (by exact IsR rfl)) (by repeat (first | exact HSub.refl _ | refine HSub.pick 1 rfl ?_ | refine HSub.drop ?_)) ?_
      exact ⟨by unfold woundE; rw [if_neg (by rw [h3]; decide), if_pos h5]; rfl, rfl⟩
def killE (m : At) (v : Vx) (h : Hs) : Nat := if woundE m v ≠ 0 then woundE m v else if h ∈ (atG m v).kills then 110 else 0
def killA (m : At) (v : Vx) (h : Hs) : At := if killE m v h = 0 then setA m v { atG m v with kills := (atG m v).kills ++ [h] } else m
set_option maxHeartbeats 2000000 in
set_option maxRecDepth 100000 in
theorem kill_calls (g ma mb : Nat) (n : Int) (m : At) (v : Vx) (by_ : Hs) (hk : (atG m v).kills.length < 900000) : LCalls Tryd.prog 10 [pt g, .agg (vxL v), .agg (hsL by_)] [gC g ma mb n, gA ma m, kb] (fun r H' => r = i64 (killE m v by_ : Nat) ∧ H' = [gC g ma mb n, gA ma (killA m v by_), kb]) := by
  have hvl := vxL_len v
  have hbl := hsL_len by_
  have hb32 : by_.1.length = 32 := by_.2
  have hgi := at_is m v
  obtain ⟨x, hx⟩ : ∃ x, x = atG m v := ⟨_, rfl⟩
  obtain ⟨W, hW⟩ : ∃ W, W = woundE m v := ⟨_, rfl⟩
  have hwc := wound_calls g ma mb n m v
  rw [← hx] at hk hgi
  rw [← hW] at hwc
  have hE : killE m v by_ = if W ≠ 0 then W else if by_ ∈ x.kills then 110 else 0 := by unfold killE; rw [hx, hW]
  have hA : killA m v by_ = if killE m v by_ = 0 then setA m v { x with kills := x.kills ++ [by_] } else m := by unfold killA; rw [hx]
  rw [hA, hE]
  refine LCalls.of Tryd.func10 rfl Tryd.ntmps10 Tryd.results10 rfl (fun Rf => ?_)
  refine LW.seq ?_
  refine LW.region ?_
  refine X.act (X.box rfl Is.rfl' (by exact Cells.agg) (fun b4 => ?_))
  refine X.act (X.box rfl Is.rfl' (by exact Cells.agg) (fun b5 => ?_))
  refine X.u (LU.assignR Is.rfl') rfl ?_
  refine LL.nil (after_code ?_)
  refine LW.seq ?_
  refine LW.seq ?_
  refine LW.region ?_
  refine X.u (LU.moveR Is.rfl') rfl ?_
  refine X.u (LU.loadO 1 rfl ⟨Tryd.sizeOf35, Tryd.isAgg35⟩ Is.rfl' (Part.whole (by assumption))) rfl ?_
  refine X.u (LU.callP (show List.Perm _ ([gC g ma mb n, gA ma m, kb] ++ (.cells b5 31 (hsL by_) :: .cells b4 35 (vxL v) :: Rf)) from perm_of fun x => (by simp only [List.count_append, List.count_cons, List.count_nil]; omega)) (hwc) Tryd.func30 rfl rfl (Opds.cons Is.rfl' (Opds.cons Is.rfl' Opds.nil))) rfl ?_
  refine X.u (LU.assignR Is.rfl') rfl ?_
  refine LL.nil (after_code ?_)
  refine LW.seq ?_
  refine LW.region ?_
  refine X.u (LU.moveR Is.rfl') rfl ?_
  refine X.u (LU.neq Is.rfl' Is.rfl') rfl ?_
  refine LL.nil (after_code ?_)
  refine X.cond rfl (fun h2 => ?_) (fun h2 => ?_)
  · have h2 : W ≠ 0 := by simp at h2; omega
    refine LW.seq ?_
    refine LW.region ?_
    refine X.u (LU.moveR Is.rfl') rfl ?_
    refine X.u (LU.assignR Is.rfl') rfl ?_
    refine LL.nil (after_code ?_)
    refine LW.ret (ret_code (after_end ?_))
    refine X.ret (H' := [gC g ma mb n, gA ma m, kb]) (Res.one (by exact IsR rfl)) (by repeat (first | exact HSub.refl _ | refine HSub.pick 2 rfl ?_ | refine HSub.drop ?_)) ?_
    exact ⟨by rw [if_pos h2], by rw [if_pos h2, if_neg h2]⟩
  · have h2 : ¬ W ≠ 0 := by simp at h2; omega
    refine LW.skip (after_code ?_)
    refine LW.seq ?_
    refine LW.invM (m := 7) (γ := Nat × Nat) [(0, 15), (1, 16), (2, 17), (3, 18), (4, 19), (5, 20), (6, 8)] (fun g_ d => match g_ with | ⟨b_, z_⟩ => match d with | 15 => pt g | 16 => pt g | 17 => pt g | 18 => .raw (.map (some ma)) | 19 => .agg (vxL v) | 20 => lnE x | 8 => pt b_ | _ => .any) (fun g_ f => match g_ with | ⟨b_, z_⟩ => cond (f 6) (.cells b_ 73 (raws z73.cells.toList)) (.tail 0 0 0) :: .cells b5 31 (hsL by_) :: .cells b4 35 (vxL v) :: gC g ma mb n :: gA ma m :: kb :: Rf) (0, 0) rfl (by kernel_rfl) rfl rfl ((HSub.trans (by repeat (exact HSub.refl _)) (HSub.tail0 0 0 0 (Nat.le_refl _) _))) ?_ ?_
    · intro i hi f g_ hfi hdir hdown
      obtain ⟨b_, z_⟩ := g_
      have hc : i = 0 ∨ i = 1 ∨ i = 2 ∨ i = 3 ∨ i = 4 ∨ i = 5 ∨ i = 6 := by omega
      rcases hc with rfl | rfl | rfl | rfl | rfl | rfl | rfl
      · refine ⟨_, rfl, ?_⟩
        refine A.u (LU.moveR Is.rfl') rfl ?_
        refine ⟨⟨b_, z_⟩, Weaker.mk' ?_ (HSub.refl _)⟩
        refine env_back0 (envS_hit (sl := [(0, 15), (1, 16), (2, 17), (3, 18), (4, 19), (5, 20), (6, 8)]) (j := 0) (d := 15) rfl (fun _ _ h => h))  (envS_next ?_)
        · intro p hp hne; simp only [List.mem_cons, List.not_mem_nil, or_false] at hp; rcases hp with rfl | rfl | rfl | rfl | rfl | rfl | rfl <;> first | exact absurd rfl hne | exact ⟨rfl, rfl⟩
      · have d0 := hdir 0 (List.mem_of_elem_eq_true (by kernel_rfl))
        refine ⟨_, rfl, ?_⟩
        refine LP.weak (t := 15) (v := pt g) (envS_is (j := 0) rfl d0) ?_
        refine A.u (LU.nilCheck Is.rfl') rfl ?_
        refine ⟨⟨b_, z_⟩, Weaker.mk' ?_ (HSub.refl _)⟩
        refine env_back1 (envS_hit (sl := [(0, 15), (1, 16), (2, 17), (3, 18), (4, 19), (5, 20), (6, 8)]) (j := 1) (d := 16) rfl (fun _ _ h => h)) (envS_hit (sl := [(0, 15), (1, 16), (2, 17), (3, 18), (4, 19), (5, 20), (6, 8)]) (j := 0) (d := 15) rfl (fun _ _ h => h)) (envS_next ?_)
        · intro p hp hne; simp only [List.mem_cons, List.not_mem_nil, or_false] at hp; rcases hp with rfl | rfl | rfl | rfl | rfl | rfl | rfl <;> first | exact absurd rfl hne | exact ⟨rfl, rfl⟩
      · have d1 := hdir 1 (List.mem_of_elem_eq_true (by kernel_rfl))
        refine ⟨_, rfl, ?_⟩
        refine LP.weak (t := 16) (v := pt g) (envS_is (j := 1) rfl d1) ?_
        refine A.u (LU.fieldO Tryd.underlying68 rfl Tryd.sizeOf65 (by decide) Is.rfl') rfl ?_
        refine ⟨⟨b_, z_⟩, Weaker.mk' ?_ (HSub.refl _)⟩
        refine env_back1 (envS_hit (sl := [(0, 15), (1, 16), (2, 17), (3, 18), (4, 19), (5, 20), (6, 8)]) (j := 2) (d := 17) rfl (fun _ _ h => h)) (envS_hit (sl := [(0, 15), (1, 16), (2, 17), (3, 18), (4, 19), (5, 20), (6, 8)]) (j := 1) (d := 16) rfl (fun _ _ h => h)) (envS_next ?_)
        · intro p hp hne; simp only [List.mem_cons, List.not_mem_nil, or_false] at hp; rcases hp with rfl | rfl | rfl | rfl | rfl | rfl | rfl <;> first | exact absurd rfl hne | exact ⟨rfl, rfl⟩
      · have d2 := hdir 2 (List.mem_of_elem_eq_true (by kernel_rfl))
        refine ⟨_, rfl, ?_⟩
        refine LP.weak (t := 17) (v := pt g) (envS_is (j := 2) rfl d2) ?_
        refine A.u (LU.loadO 3 rfl ⟨Tryd.sizeOf65, Tryd.isAgg65⟩ Is.rfl' (Part.one rfl)) rfl ?_
        refine ⟨⟨b_, z_⟩, Weaker.mk' ?_ (HSub.refl _)⟩
        refine env_back1 (envS_hit (sl := [(0, 15), (1, 16), (2, 17), (3, 18), (4, 19), (5, 20), (6, 8)]) (j := 3) (d := 18) rfl (fun _ _ h => h)) (envS_hit (sl := [(0, 15), (1, 16), (2, 17), (3, 18), (4, 19), (5, 20), (6, 8)]) (j := 2) (d := 17) rfl (fun _ _ h => h)) (envS_next ?_)
        · intro p hp hne; simp only [List.mem_cons, List.not_mem_nil, or_false] at hp; rcases hp with rfl | rfl | rfl | rfl | rfl | rfl | rfl <;> first | exact absurd rfl hne | exact ⟨rfl, rfl⟩
      · refine ⟨_, rfl, ?_⟩
        refine A.u (LU.loadO 2 rfl ⟨Tryd.sizeOf35, Tryd.isAgg35⟩ Is.rfl' (Part.whole (by assumption))) rfl ?_
        refine ⟨⟨b_, z_⟩, Weaker.mk' ?_ (HSub.refl _)⟩
        refine env_back0 (envS_hit (sl := [(0, 15), (1, 16), (2, 17), (3, 18), (4, 19), (5, 20), (6, 8)]) (j := 4) (d := 19) rfl (fun _ _ h => h))  (envS_next ?_)
        · intro p hp hne; simp only [List.mem_cons, List.not_mem_nil, or_false] at hp; rcases hp with rfl | rfl | rfl | rfl | rfl | rfl | rfl <;> first | exact absurd rfl hne | exact ⟨rfl, rfl⟩
      · have d3 := hdir 3 (List.mem_of_elem_eq_true (by kernel_rfl))
        have d4 := hdir 4 (List.mem_of_elem_eq_true (by kernel_rfl))
        refine ⟨_, rfl, ?_⟩
        refine LP.weak (t := 18) (v := .raw (.map (some ma))) (envS_is (j := 3) rfl d3) ?_
        refine LP.weak (t := 19) (v := .agg (vxL v)) (envS_is (j := 4) rfl d4) ?_
        refine A.u (LU.weak (LU.lookup 4 (KeyOk.vx vxty) rfl Tryd.underlying65 Tryd.zeroValue73 Is.rfl' (by exact Is.vx _)) (hgi)) rfl ?_
        refine ⟨⟨b_, z_⟩, Weaker.mk' ?_ (HSub.refl _)⟩
        refine env_back2 (envS_hit (sl := [(0, 15), (1, 16), (2, 17), (3, 18), (4, 19), (5, 20), (6, 8)]) (j := 5) (d := 20) rfl (fun _ _ h => h)) (envS_hit (sl := [(0, 15), (1, 16), (2, 17), (3, 18), (4, 19), (5, 20), (6, 8)]) (j := 4) (d := 19) rfl (fun _ _ h => h)) (envS_hit (sl := [(0, 15), (1, 16), (2, 17), (3, 18), (4, 19), (5, 20), (6, 8)]) (j := 3) (d := 18) rfl (fun _ _ h => h)) (envS_next ?_)
        · intro p hp hne; simp only [List.mem_cons, List.not_mem_nil, or_false] at hp; rcases hp with rfl | rfl | rfl | rfl | rfl | rfl | rfl <;> first | exact absurd rfl hne | exact ⟨rfl, rfl⟩
      · refine ⟨_, rfl, ?_⟩
        refine A.act (X.alloc rfl Tryd.zeroValue73 (by exact Cells.rawagg (by decide)) (fun b8 => ?_))
        refine ⟨(b8, 0), Weaker.mk' ?_ (by show L.HSub (_ :: cond (f 6) _ (.tail 0 0 0) :: _) _; rw [hfi]; exact HSub.cons (HSub.drop (HSub.refl _)))⟩
        refine env_back0 (envS_hit (sl := [(0, 15), (1, 16), (2, 17), (3, 18), (4, 19), (5, 20), (6, 8)]) (j := 6) (d := 8) rfl (fun _ _ h => h))  (envS_next ?_)
        · intro p hp hne; simp only [List.mem_cons, List.not_mem_nil, or_false] at hp; rcases hp with rfl | rfl | rfl | rfl | rfl | rfl | rfl <;> first | exact absurd rfl hne | exact ⟨rfl, rfl⟩
    · intro g_ f hf_
      obtain ⟨b_, z_⟩ := g_
      refine X.ghost (H' := .cells b_ 73 (raws z73.cells.toList) :: .cells b5 31 (hsL by_) :: .cells b4 35 (vxL v) :: gC g ma mb n :: gA ma m :: kb :: Rf) (by show L.HSub (cond (f 6) _ (.tail 0 0 0) :: _) _; rw [hf_ 6 (by omega)]; exact HSub.refl _) ?_
      refine X.act (X.store 0 rfl Tryd.sizeOf73 Is.rfl' Is.rfl' (by exact Cells.agg) (by (simp; done)) (by exact Nat.le_of_ble_eq_true rfl) ?_)
      refine LL.nil (after_code ?_)
      refine LW.seq ?_
      refine LW.seq ?_
      refine X.wcells (ys := lnL x) rfl ?_
      refine LW.region ?_
      refine X.u (LU.fieldO Tryd.underlying73 rfl Tryd.sizeOf71 (by decide) Is.rfl') rfl ?_
      refine X.u (LU.loadO 0 rfl ⟨Tryd.sizeOf71, Tryd.isAgg71⟩ Is.rfl' (Part.one rfl)) rfl ?_
      refine X.u (LU.loadO 1 rfl ⟨Tryd.sizeOf31, Tryd.isAgg31⟩ Is.rfl' (Part.whole (by assumption))) rfl ?_
      refine X.u (LU.call (containsH_calls x.kills .unk by_ (by omega)) Tryd.func31 rfl rfl (Opds.cons Is.rfl' (Opds.cons Is.rfl' Opds.nil))) rfl ?_
      refine LL.nil (after_code ?_)
      refine X.cond rfl (fun h5 => ?_) (fun h5 => ?_)
      · have h5 : by_ ∈ x.kills := by simpa using h5
        refine LW.seq ?_
        refine LW.region ?_
        refine X.u (LU.assignR Is.rfl') rfl ?_
        refine LL.nil (after_code ?_)
        refine LW.ret (ret_code (after_end ?_))
        refine X.ret (H' := [gC g ma mb n, gA ma m, kb]) (Res.one (by exact IsR rfl)) (by repeat (first | exact HSub.refl _ | refine HSub.pick 3 rfl ?_ | refine HSub.drop ?_)) ?_
        exact ⟨by rw [if_neg h2, if_pos h5]; rfl, by rw [if_neg h2, if_pos h5, if_neg (by decide)]⟩
      · have h5 : by_ ∉ x.kills := by simpa using h5
        refine LW.skip (after_code ?_)
        refine LW.seq ?_
        refine LW.invM (m := 6) (γ := Nat × Nat × Nat × Nat × Nat × Nat) [(0, 25), (1, 26), (2, 27), (3, 28), (4, 29), (5, 30)] (fun g_ d => match g_ with | ⟨q1, q2, q3, q4, q5, q6⟩ => match d with | 25 => .raw (.pointer (some ⟨b_, 1, none⟩)) | 26 => .sl 32 (hss x.kills) .unk | 27 => .sl 32 (hss x.kills) (.tok q1 q2 q3) | 28 => .agg (hsL by_) | 29 => .sl 32 [hsL by_] .full | 30 => .sl 32 (hss (x.kills ++ [by_])) (.tok q4 q5 q6) | _ => .any) (fun g_ f => match g_ with | ⟨q1, q2, q3, q4, q5, q6⟩ => cond (f 5) (.tail q4 q5 q6) (cond (f 2) (.tail q1 q2 q3) (.tail 0 0 0)) :: .cells b_ 73 (lnL x) :: .cells b5 31 (hsL by_) :: .cells b4 35 (vxL v) :: gC g ma mb n :: gA ma m :: kb :: Rf) (0, 0, 0, 0, 0, 0) rfl (by kernel_rfl) rfl rfl ((HSub.trans (by repeat (exact HSub.refl _)) (HSub.tail0 0 0 0 (Nat.le_refl _) _))) ?_ ?_
        · intro i hi f g_ hfi hdir hdown
          obtain ⟨q1, q2, q3, q4, q5, q6⟩ := g_
          have hc : i = 0 ∨ i = 1 ∨ i = 2 ∨ i = 3 ∨ i = 4 ∨ i = 5 := by omega
          rcases hc with rfl | rfl | rfl | rfl | rfl | rfl
          · refine ⟨_, rfl, ?_⟩
            refine A.u (LU.fieldO Tryd.underlying73 rfl Tryd.sizeOf71 (by decide) Is.rfl') rfl ?_
            refine ⟨⟨q1, q2, q3, q4, q5, q6⟩, Weaker.mk' ?_ (HSub.refl _)⟩
            refine env_back0 (envS_hit (sl := [(0, 25), (1, 26), (2, 27), (3, 28), (4, 29), (5, 30)]) (j := 0) (d := 25) rfl (fun _ _ h => h))  (envS_next ?_)
            · intro p hp hne; simp only [List.mem_cons, List.not_mem_nil, or_false] at hp; rcases hp with rfl | rfl | rfl | rfl | rfl | rfl <;> first | exact absurd rfl hne | exact ⟨rfl, rfl⟩
          · have d0 := hdir 0 (List.mem_of_elem_eq_true (by kernel_rfl))
            refine ⟨_, rfl, ?_⟩
            refine LP.weak (t := 25) (v := .raw (.pointer (some ⟨b_, 1, none⟩))) (envS_is (j := 0) rfl d0) ?_
            refine A.u (LU.loadO 1 rfl ⟨Tryd.sizeOf71, Tryd.isAgg71⟩ Is.rfl' (Part.one rfl)) rfl ?_
            refine ⟨⟨q1, q2, q3, q4, q5, q6⟩, Weaker.mk' ?_ (HSub.refl _)⟩
            refine env_back1 (envS_hit (sl := [(0, 25), (1, 26), (2, 27), (3, 28), (4, 29), (5, 30)]) (j := 1) (d := 26) rfl (fun _ _ h => h)) (envS_hit (sl := [(0, 25), (1, 26), (2, 27), (3, 28), (4, 29), (5, 30)]) (j := 0) (d := 25) rfl (fun _ _ h => h)) (envS_next ?_)
            · intro p hp hne; simp only [List.mem_cons, List.not_mem_nil, or_false] at hp; rcases hp with rfl | rfl | rfl | rfl | rfl | rfl <;> first | exact absurd rfl hne | exact ⟨rfl, rfl⟩
          · have d1 := hdir 1 (List.mem_of_elem_eq_true (by kernel_rfl))
            refine ⟨_, rfl, ?_⟩
            have h6 : f 5 = false := Bool.eq_false_iff.2 (fun h => by rw [hdown 5 (by omega) h 2 (List.mem_of_elem_eq_true (by kernel_rfl))] at hfi; cases hfi)
            refine LP.ghost (H' := .cells b_ 73 (lnL x) :: .cells b5 31 (hsL by_) :: .cells b4 35 (vxL v) :: gC g ma mb n :: gA ma m :: kb :: Rf) (by show L.HSub (cond (f 5) _ (cond (f 2) _ _) :: _) _; rw [h6, hfi]; exact HSub.drop (HSub.refl _)) ?_
            refine LP.weak (t := 26) (v := .sl 32 (hss x.kills) .unk) (envS_is (j := 1) rfl d1) ?_
            refine A.act (X.call (cloneH_calls x.kills .unk (by omega)) Tryd.func32 rfl rfl rfl (HSub.refl _) (Opds.cons Is.rfl' Opds.nil) ?_)
            rintro r H' ⟨b27, o27, c27, rfl, rfl⟩
            refine ⟨(b27, o27, c27, q4, q5, q6), Weaker.mk' ?_ (by show L.HSub _ (cond (f 5) _ (.tail b27 o27 c27) :: _); rw [h6]; exact HSub.refl _)⟩
            refine env_back1 (envS_hit (sl := [(0, 25), (1, 26), (2, 27), (3, 28), (4, 29), (5, 30)]) (j := 2) (d := 27) rfl (fun _ _ h => h)) (envS_hit (sl := [(0, 25), (1, 26), (2, 27), (3, 28), (4, 29), (5, 30)]) (j := 1) (d := 26) rfl (fun _ _ h => h)) (envS_next ?_)
            · intro p hp hne; simp only [List.mem_cons, List.not_mem_nil, or_false] at hp; rcases hp with rfl | rfl | rfl | rfl | rfl | rfl <;> first | exact absurd rfl hne | exact ⟨rfl, rfl⟩
          · refine ⟨_, rfl, ?_⟩
            refine A.u (LU.loadO 2 rfl ⟨Tryd.sizeOf31, Tryd.isAgg31⟩ Is.rfl' (Part.whole (by assumption))) rfl ?_
            refine ⟨⟨q1, q2, q3, q4, q5, q6⟩, Weaker.mk' ?_ (HSub.refl _)⟩
            refine env_back0 (envS_hit (sl := [(0, 25), (1, 26), (2, 27), (3, 28), (4, 29), (5, 30)]) (j := 3) (d := 28) rfl (fun _ _ h => h))  (envS_next ?_)
            · intro p hp hne; simp only [List.mem_cons, List.not_mem_nil, or_false] at hp; rcases hp with rfl | rfl | rfl | rfl | rfl | rfl <;> first | exact absurd rfl hne | exact ⟨rfl, rfl⟩
          · have d3 := hdir 3 (List.mem_of_elem_eq_true (by kernel_rfl))
            refine ⟨_, rfl, ?_⟩
            refine LP.weak (t := 28) (v := .agg (hsL by_)) (envS_is (j := 3) rfl d3) ?_
            refine A.u (LU.lits Tryd.underlying71 Tryd.sizeOf31 Tryd.zeroValue31 (ones rfl) rfl (by decide) (by decide) (Elems.cons Is.rfl' (by exact Cells.agg) Elems.nil) (by (simp; assumption)) rfl) rfl ?_
            refine ⟨⟨q1, q2, q3, q4, q5, q6⟩, Weaker.mk' ?_ (HSub.refl _)⟩
            refine env_back1 (envS_hit (sl := [(0, 25), (1, 26), (2, 27), (3, 28), (4, 29), (5, 30)]) (j := 4) (d := 29) rfl (fun _ _ h => h)) (envS_hit (sl := [(0, 25), (1, 26), (2, 27), (3, 28), (4, 29), (5, 30)]) (j := 3) (d := 28) rfl (fun _ _ h => h)) (envS_next ?_)
            · intro p hp hne; simp only [List.mem_cons, List.not_mem_nil, or_false] at hp; rcases hp with rfl | rfl | rfl | rfl | rfl | rfl <;> first | exact absurd rfl hne | exact ⟨rfl, rfl⟩
          · have d2 := hdir 2 (List.mem_of_elem_eq_true (by kernel_rfl))
            have d4 := hdir 4 (List.mem_of_elem_eq_true (by kernel_rfl))
            refine ⟨_, rfl, ?_⟩
            have h2 : f 2 = true := hdir 2 (List.mem_of_elem_eq_true (by kernel_rfl))
            refine LP.ghost (H' := .tail q1 q2 q3 :: .cells b_ 73 (lnL x) :: .cells b5 31 (hsL by_) :: .cells b4 35 (vxL v) :: gC g ma mb n :: gA ma m :: kb :: Rf) (by show L.HSub (cond (f 5) _ (cond (f 2) _ _) :: _) _; rw [h2, hfi]; exact HSub.refl _) ?_
            refine LP.weak (t := 27) (v := .sl 32 (hss x.kills) (.tok q1 q2 q3)) (envS_is (j := 2) rfl d2) ?_
            refine LP.weak (t := 29) (v := .sl 32 [hsL by_] .full) (envS_is (j := 4) rfl d4) ?_
            refine A.act (X.append 0 rfl rfl Tryd.underlying71 (El.of (P := Tryd.prog) (z := (.agg #[(.int .u8 0), (.int .u8 0), (.int .u8 0), (.int .u8 0), (.int .u8 0), (.int .u8 0), (.int .u8 0), (.int .u8 0), (.int .u8 0), (.int .u8 0), (.int .u8 0), (.int .u8 0), (.int .u8 0), (.int .u8 0), (.int .u8 0), (.int .u8 0), (.int .u8 0), (.int .u8 0), (.int .u8 0), (.int .u8 0), (.int .u8 0), (.int .u8 0), (.int .u8 0), (.int .u8 0), (.int .u8 0), (.int .u8 0), (.int .u8 0), (.int .u8 0), (.int .u8 0), (.int .u8 0), (.int .u8 0), (.int .u8 0)])) (size := 32) (bytes := 32) rfl rfl rfl) Is.rfl' Is.rfl' (SrcL.slice Tryd.underlying71 (by decide) (by intro e he; rw [List.mem_singleton.1 he]; exact hbl)) (by simp only [Option.getD_some, Option.getD_none, byteEls_length, intEls_length, List.length_append, List.length_cons, List.length_nil, List.length_map, List.length_drop, List.length_take, Int.toNat_natCast]; omega) (by simp only [Option.getD_some, Option.getD_none, byteEls_length, intEls_length, List.length_append, List.length_cons, List.length_nil, List.length_map, List.length_drop, List.length_take, Int.toNat_natCast]; omega) (fun b30 o30 c30 => ?_))
            refine ⟨(q1, q2, q3, b30, o30, c30), Weaker.mk' ?_ (HSub.refl _)⟩
            refine env_back2 (envS_hit (sl := [(0, 25), (1, 26), (2, 27), (3, 28), (4, 29), (5, 30)]) (j := 5) (d := 30) rfl (Is.of (congrArg (fun z => LV.sl 32 z (.tok b30 o30 c30)) (hss_app x.kills [by_])))) (envS_hit (sl := [(0, 25), (1, 26), (2, 27), (3, 28), (4, 29), (5, 30)]) (j := 4) (d := 29) rfl (fun _ _ h => h)) (envS_hit (sl := [(0, 25), (1, 26), (2, 27), (3, 28), (4, 29), (5, 30)]) (j := 2) (d := 27) rfl (fun _ _ h => h)) (envS_next ?_)
            · intro p hp hne; simp only [List.mem_cons, List.not_mem_nil, or_false] at hp; rcases hp with rfl | rfl | rfl | rfl | rfl | rfl <;> first | exact absurd rfl hne | exact ⟨rfl, rfl⟩
        · intro g_ f hf_
          obtain ⟨q1, q2, q3, q4, q5, q6⟩ := g_
          refine X.ghost (H' := .tail q4 q5 q6 :: .cells b_ 73 (lnL x) :: .cells b5 31 (hsL by_) :: .cells b4 35 (vxL v) :: gC g ma mb n :: gA ma m :: kb :: Rf) (by show L.HSub (cond (f 5) _ _ :: _) _; rw [hf_ 5 (by omega)]; exact HSub.refl _) ?_
          refine X.u (LU.fieldO Tryd.underlying73 rfl Tryd.sizeOf71 (by decide) Is.rfl') rfl ?_
          refine X.act (X.store 1 rfl Tryd.sizeOf71 Is.rfl' Is.rfl' (by exact Cells.sl) (by (simp; done)) (by (simp; done)) ?_)
          refine LL.nil (after_code ?_)
          refine LW.seq ?_
          refine X.wcells (ys := [Str x.text, .sl 32 (hss (x.kills ++ [by_])) (.tok q4 q5 q6), i64 x.part, Vxs x.next .unk, Vxs x.prev .unk]) rfl ?_
          refine X.wghost (H' := .cells b_ 73 (lnL { x with kills := x.kills ++ [by_] }) :: .cells b5 31 (hsL by_) :: .cells b4 35 (vxL v) :: gC g ma mb n :: gA ma m :: kb :: Rf) (HSub.trans (B := .cells b_ 73 [Str x.text, .sl 32 (hss (x.kills ++ [by_])) (.tok q4 q5 q6), i64 x.part, Vxs x.next .unk, Vxs x.prev .unk] :: .cells b5 31 (hsL by_) :: .cells b4 35 (vxL v) :: gC g ma mb n :: gA ma m :: kb :: Rf) (by repeat (first | exact HSub.refl _ | refine HSub.pick 0 rfl ?_ | refine HSub.pick 1 rfl ?_ | refine HSub.drop ?_)) (HSub.cell 1 rfl Is.unk)) ?_
          refine X.drawM 6 rfl (by kernel_rfl) rfl ?_
          refine QD.u (LU.moveR Is.rfl') rfl ?_
          refine QD.u (LU.nilCheck Is.rfl') rfl ?_
          refine QD.u (LU.fieldO Tryd.underlying68 rfl Tryd.sizeOf65 (by decide) Is.rfl') rfl ?_
          refine QD.u (LU.loadO 3 rfl ⟨Tryd.sizeOf65, Tryd.isAgg65⟩ Is.rfl' (Part.one rfl)) rfl ?_
          refine QD.u (LU.loadO 2 rfl ⟨Tryd.sizeOf35, Tryd.isAgg35⟩ Is.rfl' (Part.whole (by assumption))) rfl ?_
          refine QD.u (LU.loadO 0 rfl ⟨Tryd.sizeOf73, Tryd.isAgg73⟩ Is.rfl' (Part.whole (by (simp; done)))) rfl ?_
          refine QD.nil ?_
          refine X.act (LO.mapUpdate (st := ⟨_, _, _⟩) 4 (KeyOk.vx vxty) rfl Tryd.underlying65 Is.rfl' (by exact Is.vx _) Is.rfl' ?_)
          refine LL.nil (after_code ?_)
          refine LW.seq ?_
          refine LW.region ?_
          refine X.u (LU.assignR Is.rfl') rfl ?_
          refine LL.nil (after_code ?_)
          refine LW.ret (after_end ?_)
          refine X.ret (H' := [gC g ma mb n, gA ma (setA m v { x with kills := x.kills ++ [by_] }), kb]) (Res.one (by exact IsR rfl)) (by rw [← gA_set]; exact (by repeat (first | exact HSub.refl _ | refine HSub.pick 0 rfl ?_ | refine HSub.pick 3 rfl ?_ | refine HSub.pick 4 rfl ?_ | refine HSub.drop ?_))) ?_
          exact ⟨by rw [if_neg h2, if_neg h5]; rfl, by rw [if_neg h2, if_neg h5, if_pos rfl]⟩
end Go.Proofs.YtolpkeajokjbjaaDoor
