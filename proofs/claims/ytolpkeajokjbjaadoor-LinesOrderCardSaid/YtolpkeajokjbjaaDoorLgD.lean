/- m[a] op= v: an entry taken, and stored to. Plain theorems over any program. []byte(s) whose bytes are owned and stored to: an owned object, its bytes told. Plain theorems over any program. Maps whose keys are arrays of 32 bytes. Plain theorems over any program. Slices whose row is owned and grows: append wherever they begin, nil at first. Plain theorems over any program. Maps whose keys are a hash and a number; such pairs compared. Plain theorems over any program. A call of internal/bytealg's comparison, which has no body. Plain theorems over any program. clear of one element of many cells. Plain theorems over any program. An owned slice becomes known between operations. Plain theorems over any program. -/
import Derived.Test.YtolpkeajokjbjaaDoorLgC
import Derived.Test.YtolpkeajokjbjaaDoorLgB
import Derived.Laws.Externs
import Derived.Lib.Bytealg
import Derived.Lib.BytesEntry
import Derived.Lib.SlFresh
set_option linter.unusedVariables false
set_option linter.unusedSimpArgs false
namespace Go.L
open Go.RowKit
section
variable {κ : Type} [DecidableEq κ]
def entI (l : List (κ × LV)) (a : κ) : Nat := (idxM l a).getD l.length
def entM (l : List (κ × LV)) (a : κ) (z : LV) : List (κ × LV) := match idxM l a with
  | some _ => l
  | none => l ++ [(a, z)]
theorem ent_set (l : List (κ × LV)) (a : κ) (z v : LV) : (entM l a z).set (entI l a) (a, v) = setM l a v := by
  unfold entM entI setM
  cases h : idxM l a with
  | some i => rfl
  | none => simp
theorem ent_at (l : List (κ × LV)) (a : κ) (z : LV) : (entM l a z)[entI l a]? = some (a, (lookM l a).getD z) := by
  unfold entM entI lookM
  cases h : idxM l a with
  | some i => obtain ⟨v, hv⟩ := idxM_some h; simp [hv]
  | none => simp
end
section
variable {P : Program} {env : List (Nat × LV)} {H : List Atom} {d : Option Tmp} {ty : TypeId} {pos : String} {af : Array Edge} {g : Option (Nat × Bool)} {st : LS} {K : LS → Prop}
theorem LO.mapEntry {x y : Operand} {t kt et : TypeId} {m : Nat} {κ : Type} [DecidableEq κ] {key : κ → Value} {l : List (κ × LV)} {a : κ} {z : Value} {d : Tmp} (k : Nat) (hd : Nat.blt d st.n.k = true) (Ko : KeyOk P kt key) (hk : st.heap[k]? = some (.map m (mp key l))) (ht : P.underlying t = some (.map kt et)) (hz : ∀ w, (zeroValue et).run P w = .ok z w) (hx : Is (ev st.env x) (.raw (.map (some m)))) (hy : Is (ev st.env y) (.raw (key a)))
    (h : ∀ s, K ⟨st.n, (d, .tup [(lookM l a).getD (.raw z), .raw (.int .i64 (s : Nat))]) :: st.env, .mape m (mp key (entM l a (.raw z))) (entI l a) s :: st.heap.eraseIdx k⟩) : LO P ⟨some d, .mapEntry t x y, ty, pos, af, g⟩ st K := .of_run hd fun w0 ph ac w r => by
  have h1 := (hx _ _ (r.tmps.eval x)).rawE
  have h2 := (hy _ _ (r.tmps.eval y)).rawE
  have hinv := r.inv.front k
  unfold L.front at hinv
  rw [hk] at hinv
  obtain ⟨F, hF, ents, clock, hh, hsz, hreps, hpw⟩ := hinv.atom
  have hkeys := map_keys hsz hreps
  have hf := Ko.find a ents.toList l w hkeys
  have hlen : ents.size = l.length := by rw [hsz, List.length_map]
  have hlt := lt_of_some hh
  cases hi : idxM l a with
  | none =>
    rw [hi] at hf
    simp only [Option.bind_none] at hf
    have hM : entM l a (.raw z) = l ++ [(a, .raw z)] := by unfold entM; rw [hi]
    have hI : entI l a = l.length := by unfold entI; rw [hi]; rfl
    have hL : (lookM l a).getD (.raw z) = .raw z := by unfold lookM; rw [hi]; rfl
    refine ⟨_, .tuple #[z, .int .i64 (clock : Nat)], w.putObj m (.map (ents.push { key := key a, val := z, born := clock }) (clock + 1)), ph, _, ?_, PH.le.refl _, hinv.turn (a' := .mape m (mp key (entM l a (.raw z))) (entI l a) clock) (PH.le.refl _) (fun G hG hn => ⟨Chg.put _ (fun o => (hG.1 m o).2 rfl), G, ⟨hG.1, _, _, World.putObj_heap_same hlt, ?_, fun i e kv he hkv => ?_, ?_, ?_⟩, fun b o hb => .inl hb, fun p u hp => .inl hp⟩), ?_, h clock⟩
    · simp [execOp, h1, h2, Instr.mapEntry, run_underlying ht, MapKept.run_getObj_map hh, Ko.check, hf, hz, goInt, MapKept.run_setObj_map _ hh, World.putObj]
    · rw [hM]; simp [hlen]
    · rw [hM] at hkv
      simp only [mp, List.map_append, List.map_cons, List.map_nil] at hkv
      rw [Array.getElem?_push] at he
      by_cases c : i = ents.size
      · rw [if_pos c] at he
        obtain rfl := Option.some.inj he
        rw [List.getElem?_append_right (by rw [List.length_map]; omega), List.length_map, show i - l.length = 0 by omega] at hkv
        obtain rfl := Option.some.inj hkv
        exact ⟨.raw _, .raw _, by show clock < clock + 1; omega⟩
      · rw [if_neg c] at he
        have hil := (Array.getElem?_eq_some_iff.1 he).1
        rw [List.getElem?_append_left (by rw [List.length_map]; omega)] at hkv
        have := hreps i e kv he hkv
        exact ⟨this.1, this.2.1, by omega⟩
    · rw [Array.toList_push, List.map_append, List.pairwise_append]
      refine ⟨hpw, by simp, fun x hx y hy => ?_⟩
      simp only [List.map_cons, List.map_nil, List.mem_singleton] at hy
      subst hy
      obtain ⟨e, he, rfl⟩ := List.mem_map.1 hx
      obtain ⟨i, hi2, rfl⟩ := List.getElem_of_mem he
      have hi3 : i < ents.size := by simpa using hi2
      exact (hreps i ents[i] ((mp key l)[i]'(by omega)) (Array.getElem?_eq_getElem hi3) (List.getElem?_eq_getElem _)).2.2
    · rw [hI, ← hlen]; simp
    · refine .tup _ _ rfl fun i c x h1 h2 => ?_
      match i with
      | 0 => simp [hL] at h1 h2; subst h1; subst h2; exact .raw _
      | 1 => simp at h1 h2; subst h1; subst h2; exact .raw _
      | k + 2 => simp at h1
  | some i =>
    rw [hi] at hf
    obtain ⟨u, hu⟩ := idxM_some hi
    have hil := (List.getElem?_eq_some_iff.1 hu).1
    have hie : i < ents.size := by omega
    simp only [Option.bind_some, Array.getElem?_toList, Array.getElem?_eq_getElem hie, Option.map_some] at hf
    have hM : entM l a (.raw z) = l := by unfold entM; rw [hi]
    have hI : entI l a = i := by unfold entI; rw [hi]; rfl
    have hL : (lookM l a).getD (.raw z) = u := by unfold lookM; rw [hi]; simp [hu]
    have hri := hreps i ents[i] (.raw (key a), u) (Array.getElem?_eq_getElem hie) (by rw [List.getElem?_map, hu]; rfl)
    have hki : ents[i].key = key a := hri.1.rawE
    have hsame : (ents.modify i fun e => { e with key := key a }) = ents := by
      apply Array.ext_getElem?
      intro j
      rw [Array.getElem?_modify]
      by_cases c : i = j
      · subst c; rw [if_pos rfl, Array.getElem?_eq_getElem hie, ← hki]; rfl
      · rw [if_neg c]
    refine ⟨_, .tuple #[ents[i].val, .int .i64 (ents[i].born : Nat)], w.putObj m (.map (ents.modify i fun e => { e with key := key a }) clock), ph, _, ?_, PH.le.refl _, hinv.turn (a' := .mape m (mp key (entM l a (.raw z))) (entI l a) ents[i].born) (PH.le.refl _) (fun G hG hn => ⟨Chg.put _ (fun o => (hG.1 m o).2 rfl), G, ⟨hG.1, _, _, World.putObj_heap_same hlt, ?_, ?_, ?_, ?_⟩, fun b o hb => .inl hb, fun p u hp => .inl hp⟩), ?_, h ents[i].born⟩
    · simp [execOp, h1, h2, Instr.mapEntry, run_underlying ht, MapKept.run_getObj_map hh, Ko.check, hf, Instr.keyThatStays, hie, hki, Ko.stays, goInt, MapKept.run_setObj_map _ hh, World.putObj]
    · rw [hM]; simp [hlen]
    · rw [hM, hsame]; exact hreps
    · rw [hsame]; exact hpw
    · rw [hI, hsame, Array.getElem?_eq_getElem hie]; rfl
    · refine .tup _ _ rfl fun j c x h1 h2 => ?_
      match j with
      | 0 => simp [hL] at h1 h2; subst h1; subst h2; exact hri.2.1
      | 1 => simp at h1 h2; subst h1; subst h2; exact .raw _
      | k + 2 => simp at h1
theorem ent_look {κ : Type} [DecidableEq κ] (l : List (κ × LV)) (a : κ) (z : LV) : (lookM (entM l a z) a).getD z = (lookM l a).getD z := by
  unfold entM
  cases h : idxM l a with
  | some i => rfl
  | none =>
    have h1 : lookM l a = none := by unfold lookM; rw [h]; rfl
    have key : ∀ l : List (κ × LV), idxM l a = none → lookM (l ++ [(a, z)]) a = some z := by
      intro l
      induction l with
      | nil => intro _; simp [lookM, idxM]
      | cons p r ih =>
        intro hp
        rw [idxM] at hp
        by_cases c : p.1 = a
        · simp [c] at hp
        · simp only [c, if_false, Option.map_eq_none_iff] at hp
          have := ih hp
          unfold lookM at this ⊢
          rw [List.cons_append, idxM, if_neg c]
          cases hx : idxM (r ++ [(a, z)]) a with
          | none => rw [hx] at this; cases this
          | some i => rw [hx] at this; simpa using this
    show (lookM (l ++ [(a, z)]) a).getD z = _
    rw [key l h, h1]; rfl
/-- A read of a map of which the entry may be taken already, or not yet. -/
theorem LU.lookupC {x y : Operand} {t kt et : TypeId} {m s : Nat} {β : Bool} {κ : Type} [DecidableEq κ] {key : κ → Value} {l : List (κ × LV)} {z : Value} {a : κ} (k : Nat) (Ko : KeyOk P kt key) (hk : H[k]? = some (cond β (.mape m (mp key (entM l a (.raw z))) (entI l a) s) (.map m (mp key l)))) (ht : P.underlying t = some (.map kt et)) (hz : ∀ w, (zeroValue et).run P w = .ok z w) (hx : Is (ev env x) (.raw (.map (some m)))) (hy : Is (ev env y) (.raw (key a))) :
    LU P env H ⟨d, .lookup t x y false, ty, pos, af, g⟩ ((lookM l a).getD (.raw z)) := by
  cases β with
  | false => exact LU.lookup k Ko hk ht hz hx hy
  | true =>
    exact .of_run fun ph ac hl w0 w hinv => by
      have h1 := (hx _ _ (hl x (by simp [Op.operands]))).rawE
      have h2 := (hy _ _ (hl y (by simp [Op.operands]))).rawE
      obtain ⟨F, hF1, ents, clock, hF2, hF3, hF4, hF5, _⟩ := hinv.atom_at hk
      have hF : Atom.at ph w (.map m (mp key (entM l a (.raw z)))) F := ⟨hF1, ents, clock, hF2, hF3, hF4, hF5⟩
      obtain ⟨u, hu, hr⟩ := look_run Ko hF ht (hz w) a false
      rw [ent_look] at hr
      exact ⟨u, by simp [execOp, h1, h2, hu], hr⟩
theorem LO.entryStore {x y z : Operand} {t : TypeId} {m s i : Nat} {κ : Type} {key : κ → Value} {l : List (κ × LV)} {a : κ} {u v : LV} (k : Nat) (hk : st.heap[k]? = some (.mape m (mp key l) i s)) (ha : l[i]? = some (a, u)) (hx : Is (ev st.env x) (.raw (.map (some m)))) (hy : Is (ev st.env y) (.raw (.int .i64 (s : Nat)))) (hz : Is (ev st.env z) v)
    (h : K ⟨st.n, st.env, .map m (mp key (l.set i (a, v))) :: st.heap.eraseIdx k⟩) : LO P ⟨none, .entryStore t x y z, ty, pos, af, g⟩ st K := .of_skip fun w0 ph ac w r => by
  have h1 := (hx _ _ (r.tmps.eval x)).rawE
  have h2 := (hy _ _ (r.tmps.eval y)).rawE
  have h3 := hz _ _ (r.tmps.eval z)
  have hinv := r.inv.front k
  unfold L.front at hinv
  rw [hk] at hinv
  obtain ⟨F, hF, ents, clock, hh, hsz, hreps, hpw, hs⟩ := hinv.atom
  have hlen : ents.size = l.length := by rw [hsz, List.length_map]
  have hlt := lt_of_some hh
  have hil := (List.getElem?_eq_some_iff.1 ha).1
  have hie : i < ents.size := by omega
  rw [Array.getElem?_eq_getElem hie] at hs
  have hs : ents[i].born = s := Option.some.inj hs
  have hri := hreps i ents[i] (.raw (key a), u) (Array.getElem?_eq_getElem hie) (by rw [List.getElem?_map, ha]; rfl)
  have hfind : ents.findIdx? (fun e => (e.born : Int) == (s : Int)) = some i := by
    rw [Array.findIdx?_eq_some_iff_getElem]
    refine ⟨hie, by rw [hs]; simp, fun j hj => ?_⟩
    have hp := List.pairwise_iff_getElem.1 hpw j i (by simp; omega) (by simp; omega) hj
    simp at hp
    rw [hs] at hp
    simp
    omega
  refine ⟨w.putObj m (.map (ents.modify i fun e => { e with val := ac.eval z }) clock), ph, _, ?_, PH.le.refl _, hinv.turn (a' := .map m (mp key (l.set i (a, v)))) (PH.le.refl _) (fun G hG hn => ⟨Chg.put _ (fun o => (hG.1 m o).2 rfl), G, ⟨hG.1, _, _, World.putObj_heap_same hlt, ?_, fun j e kv he hkv => ?_, ?_⟩, fun b o hb => .inl hb, fun p u hp => .inl hp⟩), h⟩
  · simp [execOp, h1, h2, Instr.entryStore, MapKept.run_getObj_map hh, asInt, asIntOf, hfind, MapKept.run_setObj_map _ hh, World.putObj]
  · simp [hlen]
  · rw [Array.getElem?_modify] at he
    simp only [mp, List.map_set] at hkv
    by_cases c : i = j
    · subst c
      rw [if_pos rfl, Array.getElem?_eq_getElem hie] at he
      obtain rfl := Option.some.inj he
      rw [List.getElem?_set_self (by rw [List.length_map]; exact hil)] at hkv
      obtain rfl := Option.some.inj hkv
      exact ⟨hri.1, h3, hri.2.2⟩
    · rw [if_neg c] at he
      rw [List.getElem?_set_ne c] at hkv
      exact hreps j e kv he hkv
  · have : (ents.modify i fun e => { e with val := ac.eval z }).toList.map (·.born) = ents.toList.map (·.born) := by
      apply List.ext_getElem?
      intro j
      simp only [List.getElem?_map, Array.getElem?_toList, Array.getElem?_modify]
      by_cases c : i = j
      · subst c; simp [hie]
      · simp [c]
    rw [this]; exact hpw
end
section
variable {P : Program} {n : NN} {env : List (Nat × LV)} {H : List Atom} {K : LS → Prop} {ty : TypeId} {pos : String} {af : Array Edge} {g : Option (Nat × Bool)}
/-- The store to the entry that was taken: the map with the new value. -/
theorem X.entryStore {x y z : Operand} {t : TypeId} {m s : Nat} {κ : Type} [DecidableEq κ] {key : κ → Value} {l : List (κ × LV)} {a : κ} {z0 v : LV} (k : Nat) (hk : H[k]? = some (.mape m (mp key (entM l a z0)) (entI l a) s)) (hx : Is (ev env x) (.raw (.map (some m)))) (hy : Is (ev env y) (.raw (.int .i64 (s : Nat)))) (hz : Is (ev env z) v)
    (h : K ⟨n, env, .map m (mp key (setM l a v)) :: H.eraseIdx k⟩) : LO P ⟨none, .entryStore t x y z, ty, pos, af, g⟩ ⟨n, env, H⟩ K := LO.entryStore (st := ⟨n, env, H⟩) k hk (ent_at l a z0) hx hy hz (by rw [ent_set]; exact h)
end
end Go.L

set_option linter.unusedVariables false
set_option linter.unusedSimpArgs false
namespace Go.L
open Go.RowKit
abbrev bcs (l : List UInt8) (k : Nat) : Array Value := ((l.map fun b => Value.int .u8 b.toNat) ++ List.replicate k (Value.int .u8 0)).toArray
abbrev bobj (b : Nat) (e : TypeId) (l : List UInt8) (k : Nat) : Atom := .obj b (.cells (bcs l k) e (l.length + k, l.length + k + 1))
abbrev bels (l : List UInt8) (k : Nat) : List LV := (l.map fun b => LV.raw (.int .u8 b.toNat)) ++ List.replicate k (LV.raw (.int .u8 0))
theorem bcs_size (l : List UInt8) (k : Nat) : (bcs l k).size = l.length + k := by simp [bcs]
theorem bcs_reps {ph : PH} (l : List UInt8) (k : Nat) : CReps ph (bcs l k) (bels l k) := by
  have key : ∀ (i : Nat) (v : Value), (bcs l k)[i]? = some v → (bels l k)[i]? = some (.raw v) ∧ v.oneCell' = true := fun i v hv => by
    simp only [bcs, bels, List.getElem?_toArray, List.getElem?_append, List.length_map] at hv ⊢
    split at hv
    · rename_i hi
      rw [if_pos hi]
      rw [List.getElem?_map] at hv ⊢
      cases hx : l[i]? with
      | none => rw [hx] at hv; cases hv
      | some x => rw [hx] at hv; obtain rfl := Option.some.inj hv; exact ⟨rfl, rfl⟩
    · rename_i hi
      rw [if_neg hi]
      rw [List.getElem?_replicate] at hv ⊢
      split at hv
      · rename_i h2
        rw [if_pos h2]
        obtain rfl := Option.some.inj hv
        exact ⟨rfl, rfl⟩
      · cases hv
  refine ⟨⟨by simp [bcs, bels], fun i v x hv hx => ?_⟩, fun i c hc => (key i c hc).2⟩
  rw [(key i v hv).1] at hx
  rw [← Option.some.inj hx]
  exact .raw _
theorem bels_get {l : List UInt8} {k i : Nat} (h : i < l.length) : (bels l k)[i]? = some (.raw (.int .u8 (l.getD i 0).toNat)) := by
  rw [List.getElem?_append_left (by rw [List.length_map]; exact h), List.getElem?_map, List.getElem?_eq_getElem h, List.getD_eq_getElem?_getD, List.getElem?_eq_getElem h]
  rfl
theorem bcs_set {l : List UInt8} {k i : Nat} (v : Nat) (hv : v < 256) (h : i < l.length) : (bcs l k).setIfInBounds i (.int .u8 v) = bcs (l.set i (UInt8.ofNat v)) k := by
  have hu : (UInt8.ofNat v).toNat = v := by rw [UInt8.toNat_ofNat']; exact Nat.mod_eq_of_lt hv
  rw [bcs, List.setIfInBounds_toArray, List.set_append_left _ _ (by rw [List.length_map]; exact h), bcs, List.map_set, hu]
section
variable {P : Program} {st : LS} {env : List (Nat × LV)} {H : List Atom} {K : LS → Prop} {ty : TypeId} {pos : String} {af : Array Edge} {g : Option (Nat × Bool)}
theorem LO.bytesO {x : Operand} {src dst e : TypeId} {l : List UInt8} {u : TypeDesc} {d : Tmp} (hds : Nat.blt d st.n.k = true) (hs : P.underlying src = some u) (hd : P.underlying dst = some (.slice e)) (he : P.underlying e = some (.int .u8)) (hx : Is (ev st.env x) (Str l))
    (h : ∀ b c k, l.length ≤ c → K ⟨st.n, (d, .raw (.slice (some ⟨b, 0, none⟩) l.length c)) :: st.env, bobj b e l k :: st.heap⟩) : LO P ⟨some d, .convert src dst x, ty, pos, af, g⟩ st K := .of_run hds fun w0 ph a w r => by
  have h1 := (hx _ _ (r.tmps.eval x)).rawE
  have hrun := Lib.run_convert_string_bytes (P := P) w src dst e ⟨l.toArray⟩ hs hd he
  have hb : Below w.heap.size w (Lib.bytesWorld w e ⟨l.toArray⟩) := ⟨rfl, rfl, rfl, by rw [Lib.bytesWorld_size]; omega, fun k hk => Lib.bytesWorld_at_old w e _ k hk⟩
  have hsz : (⟨l.toArray⟩ : ByteArray).size = l.length := by simp [ByteArray.size]
  have hge := grownCap_ge w (⟨l.toArray⟩ : ByteArray).size 0 e
  obtain ⟨c, hc⟩ : ∃ c, c = grownCap w (⟨l.toArray⟩ : ByteArray).size 0 e := ⟨_, rfl⟩
  rw [← hc] at hrun hge
  rw [hsz] at hrun hge
  have hcs : Lib.bytesCells w e ⟨l.toArray⟩ = bcs l (c - l.length) := by
    apply Array.toList_inj.1
    simp [Lib.bytesCells, ByteArray.size]
    rw [hc, hsz]
  have hnew := Lib.bytesWorld_at_new w e ⟨l.toArray⟩
  rw [hcs, bcs_size] at hnew
  have hi : Inv w0 ph (Lib.bytesWorld w e ⟨l.toArray⟩) (bobj w.heap.size e l (c - l.length) :: st.heap) :=
    Inv.upd (H1 := []) (H2 := [bobj w.heap.size e l (c - l.length)]) (R := st.heap) r.inv (PH.le.refl _) (fun F hF _ => ⟨Chg.below hb _, fun b _ => b = w.heap.size, ⟨fun b _ => b = w.heap.size, fun _ _ => False, ⟨fun _ _ => Iff.rfl, hnew⟩, fun _ _ h => h, fun b o => by simp, fun _ _ _ h => h⟩, fun b o hb' => .inr (by rw [hb']; exact Nat.le_refl _), fun a u ha => .inl ha⟩)
  exact ⟨_, .slice (some ⟨w.heap.size, 0, none⟩) l.length c, Lib.bytesWorld w e ⟨l.toArray⟩, ph, _, by simp [execOp, h1, hrun], PH.le.refl _, hi, .raw _, h _ _ _ (by omega)⟩
theorem LU.loadB {d : Option Tmp} {x : Operand} {t e : TypeId} {l : List UInt8} {kz b off : Nat} {v : LV} (k : Nat) (hk : H[k]? = some (bobj b e l kz)) (ht : Ty P t 1 false) (hx : Is (ev env x) (.raw (.pointer (some ⟨b, off, none⟩)))) (hv : Part 1 false (bels l kz) off v) : LU P env H ⟨d, .load t x, ty, pos, af, g⟩ v := .of_run fun ph a hl w0 w hinv => by
  have h1 := (hx _ _ (hl x (by simp [Op.operands]))).rawE
  obtain ⟨F, hF, hh⟩ := hinv.atom_at hk
  obtain ⟨z, hrun, hrep⟩ := creps_part (P := P) (bcs_reps (ph := ph) l kz) ht hv (w := w) (b := b) (fun i c hi => by rw [cell_of_row w b i (bcs l kz) e _ hh]; exact hi)
  exact ⟨z, by simp [execOp, h1, Instr.loadAt, Instr.sureAddr, hrun], hrep⟩
theorem LO.storeB {x y : Operand} {t e : TypeId} {l : List UInt8} {kz b off v : Nat} (k : Nat) (hk : st.heap[k]? = some (bobj b e l kz)) (hs : ∀ w, (sizeOf t).run P w = .ok 1 w) (hx : Is (ev st.env x) (.raw (.pointer (some ⟨b, off, none⟩)))) (hy : Is (ev st.env y) (.raw (.int .u8 v))) (hv : v < 256) (ho : off < l.length)
    (h : K ⟨st.n, st.env, bobj b e (l.set off (UInt8.ofNat v)) kz :: st.heap.eraseIdx k⟩) : LO P ⟨none, .store t x y, ty, pos, af, g⟩ st K := .of_skip fun w0 ph a w r => by
  have h1 := (hx _ _ (r.tmps.eval x)).rawE
  have h2 := (hy _ _ (r.tmps.eval y)).rawE
  have hinv := r.inv.front k
  unfold L.front at hinv
  rw [hk] at hinv
  obtain ⟨F, hF, hh⟩ := hinv.atom
  have hsz := bcs_size l kz
  have hthere : w.there b off (a.eval y).cells.size := fun j hj => by
    rw [h2] at hj
    obtain rfl : j = 0 := by have : (Value.int .u8 (v : Int)).cells.size = 1 := rfl; omega
    rw [cell_of_row w b (off + 0) (bcs l kz) e _ hh, Array.getElem?_eq_getElem (by omega)]
    refine ⟨rfl, ?_⟩
    simp [World.frozen?, hh]
    omega
  have hrun := run_storeVar_any (P := P) hs (a.eval y) w b off hthere (by rw [h2]; rfl) (by rw [h2]; intro i c hi; match i with
    | 0 => obtain rfl := Option.some.inj hi; rfl
    | i + 1 => cases hi)
  have hrow : (w.setCells b off (a.eval y).cells.toList).heap[b]? = some (.cells (bcs (l.set off (UInt8.ofNat v)) kz) e (l.length + kz, l.length + kz + 1)) := by
    rw [h2]
    show (w.setCell ⟨b, off, none⟩ (.int .u8 v)).heap[b]? = _
    rw [← bcs_set v hv ho]
    simp [World.setCell, Array.getElem?_modify, hh]
  refine ⟨w.setCells b off (a.eval y).cells.toList, ph, _, by simp [execOp, h1, Instr.storeAt, Instr.sureAddr, hrun], PH.le.refl _, hinv.turn (a' := bobj b e (l.set off (UInt8.ofNat v)) kz) (PH.le.refl _) (fun G hG hn => ⟨(chg_setCells _ w).mono (fun b' o' hb => (hG.1 b' o').2 hb), G, ⟨hG.1, by rw [hrow, List.length_set]⟩, fun b' o' hb => .inl hb, fun p u hp => .inl hp⟩), h⟩
theorem Inv.freezeB {w0 : Base} {ph : PH} {w : World} {b : Nat} {e : TypeId} {l : List UInt8} {k : Nat} (h : Inv w0 ph w (bobj b e l k :: H)) : ∃ ph', PH.le ph ph' ∧ Inv w0 ph' w H ∧ ∀ i, i < (bcs l k).size → ph' ⟨b, i, none⟩ = (bcs l k)[i]? := by
  obtain ⟨F, hF, hh⟩ := h.atom
  have hle : PH.le ph (PH.ext ph b 0 (bcs l k).size (bcs l k)) := PH.le_ext fun i _ hi => by
    obtain ⟨_, _, _, F', ⟨F1, F2, h1, h2, h3, h4⟩, hF'⟩ := h
    exact (hF' b i ((h3 b i).2 (.inl ((h1.1 b i).2 rfl)))).2 ⟨b, i, none⟩ rfl rfl
  refine ⟨PH.ext ph b 0 (bcs l k).size (bcs l k), hle, ?_, fun i hi => PH.ext_in ⟨Nat.zero_le _, hi⟩⟩
  have := Inv.upd (H1 := [bobj b e l k]) (H2 := []) (R := H) (w' := w) h hle (fun G ⟨F1, F2, h1, h2, h3, h4⟩ hn => ⟨Chg.refl _ _, fun _ _ => False, fun _ _ h => h, fun _ _ h => h.elim, fun a u ha => by
    rcases PH.ext_cases ha with ⟨e', h5, h6, h7⟩ | h5
    · refine .inr ⟨⟨?_, (bcs_reps (ph := ph) l k).2 _ _ h7⟩, fun h => h, .inl ((h3 _ _).2 (.inl ((h1.1 _ _).2 (by rw [e']))))⟩
      rw [e', cell_of_row w b a.off (bcs l k) e _ hh]
      exact h7
    · exact .inl h5⟩)
  exact this
/-- The bytes of a slice, from now on known. -/
theorem LW.freezeB {cd : Code} {Q : Exit → LS → Prop} {t b c kz : Nat} {e : TypeId} {l : List UInt8} (k : Nat) (hk : st.heap[k]? = some (bobj b e l kz)) (ht : get st.env t = .raw (.slice (some ⟨b, 0, none⟩) l.length c)) (hnc : l.length ≤ c)
    (h : LW P cd ⟨st.n, (t, .sl 1 (byteEls l) .unk) :: st.env, st.heap.eraseIdx k⟩ Q) : LW P cd st Q := fun w0 ph a w r Q' q => by
  have hinv := r.inv.front k
  unfold L.front at hinv
  rw [hk] at hinv
  obtain ⟨ph', hle, hi, hp⟩ := Inv.freezeB hinv
  refine h w0 ph' a w ⟨hi, r.defers, r.size, fun i => ?_⟩ Q' fun e ph2 st2 a2 w2 hle2 r2 q2 => q e ph2 st2 a2 w2 (hle.trans hle2) r2 q2
  by_cases hit : t = i
  · subst hit
    rw [get_same]
    have := r.tmps t
    rw [ht] at this
    rw [this.rawE]
    exact freeze_rep (bcs_reps l kz) hp (byteEls_size l) (byteEls_length l) (by simp [bels]) (by rw [byteEls_flat, List.drop_zero, Nat.mul_one, List.take_append_of_le_length (by rw [List.length_map]; exact Nat.le_refl _), List.take_of_length_le (by rw [List.length_map]; exact Nat.le_refl _)]) hnc
  · rw [get_other hit]
    exact (r.tmps i).mono hle
end
section
variable {P : Program} {n : NN} {env : List (Nat × LV)} {H : List Atom} {K : LS → Prop} {ty : TypeId} {pos : String} {af : Array Edge} {g : Option (Nat × Bool)}
theorem X.bytesO {x : Operand} {src dst e : TypeId} {l : List UInt8} {u : TypeDesc} {d : Tmp} (hds : Nat.blt d n.k = true) (hs : P.underlying src = some u) (hd : P.underlying dst = some (.slice e)) (he : P.underlying e = some (.int .u8)) (hx : Is (ev env x) (Str l))
    (h : ∀ b c k, l.length ≤ c → K ⟨n, (d, .raw (.slice (some ⟨b, 0, none⟩) l.length c)) :: env, bobj b e l k :: H⟩) : LO P ⟨some d, .convert src dst x, ty, pos, af, g⟩ ⟨n, env, H⟩ K := LO.bytesO (st := ⟨n, env, H⟩) hds hs hd he hx h
theorem X.storeB {x y : Operand} {t e : TypeId} {l : List UInt8} {kz b off v : Nat} (k : Nat) (hk : H[k]? = some (bobj b e l kz)) (hs : ∀ w, (sizeOf t).run P w = .ok 1 w) (hx : Is (ev env x) (.raw (.pointer (some ⟨b, off, none⟩)))) (hy : Is (ev env y) (.raw (.int .u8 v))) (hv : v < 256) (ho : off < l.length)
    (h : K ⟨n, env, bobj b e (l.set off (UInt8.ofNat v)) kz :: H.eraseIdx k⟩) : LO P ⟨none, .store t x y, ty, pos, af, g⟩ ⟨n, env, H⟩ K := LO.storeB (st := ⟨n, env, H⟩) k hk hs hx hy hv ho h
end
end Go.L

set_option linter.unusedVariables false
set_option linter.unusedSimpArgs false
namespace Go.L
open Go.RowKit
abbrev Hs := {l : List UInt8 // l.length = 32}
abbrev hsV (l : List UInt8) : Value := .agg (l.map fun b => Value.int .u8 b.toNat).toArray
abbrev hsKey (a : Hs) : Value := hsV a.1
abbrev hsL (a : Hs) : List LV := a.1.map fun b => LV.raw (.int .u8 b.toNat)
theorem hs_nat (l : List UInt8) : (l.map fun b => Value.int .u8 b.toNat) = (l.map UInt8.toNat).map fun (m : Nat) => Value.int .u8 (m : Int) := by rw [List.map_map]; rfl
theorem toNat_inj {a b : List UInt8} : a.map UInt8.toNat = b.map UInt8.toNat ↔ a = b := List.map_inj_right fun x y h => UInt8.toNat_inj.1 h
section
variable {P : Program} {kt e : TypeId}
theorem eq_hs (ht : P.underlying kt = some (.array 32 e)) (he : P.underlying e = some (.int .u8)) (hsz : ∀ w, (sizeOf e).run P w = .ok 1 w) (a b : Hs) (w : World) : (Op.equal kt (hsKey a) (hsKey b)).run P w = .ok (decide (b = a)) w := by
  have h := EqR.arr ht he hsz (k := .u8) (a.1.map UInt8.toNat) (b.1.map UInt8.toNat) (by rw [List.length_map]; exact a.2) (by rw [List.length_map]; exact b.2) 9998 w
  rw [← hs_nat, ← hs_nat] at h
  have hd : decide (a.1.map UInt8.toNat = b.1.map UInt8.toNat) = decide (b = a) := by
    rw [Bool.eq_iff_iff]
    simp only [decide_eq_true_eq, toNat_inj]
    exact ⟨fun h => Subtype.ext h.symm, fun h => by rw [h]⟩
  rw [hd] at h
  exact h
theorem asking_ok (ht : P.underlying kt = some (.array 32 e)) (he : P.underlying e = some (.int .u8)) (hsz : ∀ w, (sizeOf e).run P w = .ok 1 w) (a : Hs) (w : World) : ∀ (es : List MapEntry) (l : List (Hs × LV)) (n : Nat), es.map (·.key) = l.map (fun p => hsKey p.1) → (Instr.findAsking kt (hsKey a) es n).run P w = .ok ((idxM l a).bind fun i => (es[i]?).map fun x => (n + i, x.val)) w
  | [], [], n, _ => by simp [Instr.findAsking, idxM]
  | [], p :: l, n, h => by simp at h
  | x :: es, [], n, h => by simp at h
  | x :: es, p :: l, n, h => by
    simp only [List.map_cons, List.cons.injEq] at h
    rw [Instr.findAsking]
    simp only [Sem.run_bind, h.1, eq_hs ht he hsz a p.1 w, Result.andThen_ok]
    by_cases c : p.1 = a
    · simp [idxM, c]
    · have ih := asking_ok ht he hsz a w es l (n + 1) h.2
      simp only [c, decide_false, Bool.false_eq_true, if_false, idxM]
      rw [ih]
      cases idxM l a with
      | none => rfl
      | some i => simp only [Option.bind_some, Option.map_some, List.getElem?_cons_succ]; rw [show n + 1 + i = n + (i + 1) by omega]
theorem KeyOk.hs (ht : P.underlying kt = some (.array 32 e)) (he : P.underlying e = some (.int .u8)) (hsz : ∀ w, (sizeOf e).run P w = .ok 1 w) : KeyOk P kt hsKey where
  check a b w := by
    rw [Instr.checkKey]
    simp only [Sem.run_bind, run_underlying ht, Result.andThen_ok, Std.Legacy.Range.forIn_eq_forIn_range', Std.Legacy.Range.size, Nat.sub_zero, Nat.add_sub_cancel, Nat.div_one]
    have hl : ∀ i ∈ List.range' 0 32 1, i < 32 := fun i hi => by simpa using (List.mem_range'_1.1 hi).2
    have ha := a.2
    generalize List.range' 0 32 1 = l at hl ⊢
    induction l with
    | nil => simp
    | cons i l ih =>
      have hi : i < 32 := hl i (by simp)
      have px : (part e (a.1.map fun b => Value.int .u8 b.toNat).toArray (i * 1)).run P w = .ok (.int .u8 (a.1.getD i 0).toNat) w := by
        simp [part, isAgg, run_underlying he, List.getD, List.getElem?_eq_getElem (show i < a.1.length by omega)]
      have pc : ∀ v, (Instr.checkKey b 9999 e (.int .u8 v)).run P w = .ok () w := fun v => by
        rw [Instr.checkKey]
        simp [run_underlying he]
      simp only [List.forIn_cons, Sem.run_bind, hsz, px, pc, Result.andThen_ok, Sem.run_pure]
      exact ih fun j hj => hl j (by simp [hj])
  find a es l w h := by
    unfold Instr.findKey
    simp only [Sem.run_bind, run_underlying ht, Result.andThen_ok]
    cases es with
    | nil =>
      cases l with
      | nil => simp [Instr.findNow, idxM]
      | cons p l => simp at h
    | cons x es =>
      cases l with
      | nil => simp at h
      | cons p l =>
        have hx : x.key = hsKey p.1 := by simp only [List.map_cons, List.cons.injEq] at h; exact h.1
        have hn : Instr.findNow (.array 32 e) (hsKey a) (x :: es) 0 = none := by rw [Instr.findNow, hx]; rfl
        rw [hn]
        have := asking_ok ht he hsz a w (x :: es) (p :: l) 0 h
        simpa using this
  stays a := by
    show Instr.sameBits 10000 (.agg _) (.agg _) = true
    rw [Instr.sameBits]
    simp only [beq_self_eq_true, Bool.true_and]
    rw [List.all_eq_true]
    intro q hq
    obtain ⟨i, hi, rfl⟩ := List.getElem_of_mem hq
    simp only [List.getElem_zip, List.getElem_map]
    simp [Instr.sameBits]
theorem Is.hs (l : List UInt8) : Is (.agg (l.map fun b => LV.raw (.int .u8 b.toNat))) (.raw (hsV l)) := by
  have := (RawL.map (k := .u8) (l.map UInt8.toNat)).eq
  rw [List.map_map, List.map_map] at this
  have h2 : (l.map fun b => LV.raw (.int .u8 b.toNat)) = raws (l.map fun b => Value.int .u8 b.toNat) := this
  rw [h2]
  exact Is.agg_raw
theorem Is.hk (a : Hs) : Is (.agg (hsL a)) (.raw (hsKey a)) := Is.hs a.1
theorem hsL_nat (a : Hs) : hsL a = (a.1.map UInt8.toNat).map fun (m : Nat) => LV.raw (.int .u8 (m : Int)) := by rw [List.map_map]; rfl
theorem hs_dec (a b : Hs) : decide (a.1.map UInt8.toNat = b.1.map UInt8.toNat) = decide (a = b) := by
  rw [Bool.eq_iff_iff]
  simp only [decide_eq_true_eq, toNat_inj]
  exact ⟨fun h => Subtype.ext h, fun h => by rw [h]⟩
variable {env : List (Nat × LV)} {H : List Atom} {d : Option Tmp} {ty : TypeId} {pos : String} {af : Array Edge} {g : Option (Nat × Bool)}
theorem LU.eqlHs {x y : Operand} {t' : TypeId} {a b : Hs} (ht : P.underlying kt = some (.array 32 e)) (he : P.underlying e = some (.int .u8)) (hsz : ∀ w, (sizeOf e).run P w = .ok 1 w) (hg : P.eqGuardType P.depth kt = false) (hx : Is (ev env x) (.agg (hsL a))) (hy : Is (ev env y) (.agg (hsL b))) : LU P env H ⟨d, .binOp .eql kt x y t', ty, pos, af, g⟩ (.raw (.bool (decide (a = b)))) := by
  rw [hsL_nat] at hx hy
  rw [← hs_dec]
  exact LU.eqlArr ht he hsz hg hx hy (by rw [List.length_map]; exact a.2) (by rw [List.length_map]; exact b.2)
theorem LU.neqHs {x y : Operand} {t' : TypeId} {a b : Hs} (ht : P.underlying kt = some (.array 32 e)) (he : P.underlying e = some (.int .u8)) (hsz : ∀ w, (sizeOf e).run P w = .ok 1 w) (hg : P.eqGuardType P.depth kt = false) (hx : Is (ev env x) (.agg (hsL a))) (hy : Is (ev env y) (.agg (hsL b))) : LU P env H ⟨d, .binOp .neq kt x y t', ty, pos, af, g⟩ (.raw (.bool (!decide (a = b)))) := by
  rw [hsL_nat] at hx hy
  rw [← hs_dec]
  exact LU.neqArr ht he hsz hg hx hy (by rw [List.length_map]; exact a.2) (by rw [List.length_map]; exact b.2)
end
end Go.L

set_option linter.unusedVariables false
set_option linter.unusedSimpArgs false
namespace Go.L
open Go.RowKit
abbrev ownA (A : Option Nat) (te : TypeId) (xs : List LV) : List Atom := match A with
  | none => []
  | some b => [.cells b te xs]
abbrev ownV (A : Option Nat) (off n c : Nat) : LV := .raw (.slice (A.map fun b => ⟨b, off, none⟩) n c)
/-- xs holds, from off on, room for c elements, the first n of which are es. -/
structure OwnS (size : Nat) (es : List (List LV)) (A : Option Nat) (off n c : Nat) (xs : List LV) : Prop where
  cnt : es.length = n
  le : n ≤ c
  len : off + c * size ≤ xs.length
  cells : (xs.drop off).take (n * size) = es.flatten
  sz : ∀ e ∈ es, e.length = size
  nil : A = none → c = 0
theorem OwnS.none (size : Nat) : OwnS size [] none 0 0 0 [] := ⟨rfl, Nat.le_refl _, by simp, by simp, by simp, fun _ => rfl⟩
theorem flat_len {size : Nat} : ∀ {es : List (List LV)}, (∀ e ∈ es, e.length = size) → es.flatten.length = es.length * size
  | [], _ => by simp
  | e :: es, h => by
    rw [List.flatten_cons, List.length_append, flat_len fun x hx => h x (List.mem_cons_of_mem _ hx), h e (by simp), List.length_cons, Nat.succ_mul, Nat.add_comm]
theorem OwnS.put {size : Nat} {es ys : List (List LV)} {A : Option Nat} {off n c : Nat} {xs : List LV} (h : OwnS size es A off n c xs) (hy : ∀ e ∈ ys, e.length = size) (hr : n + ys.length ≤ c) : OwnS size (es ++ ys) A off (n + ys.length) c (putAt xs (off + n * size) ys.flatten) := by
  have hyl := flat_len hy
  have hel := flat_len h.sz
  rw [h.cnt] at hel
  have hm : (n + ys.length) * size ≤ c * size := Nat.mul_le_mul_right _ hr
  have hd : (n + ys.length) * size = n * size + ys.length * size := Nat.add_mul _ _ _
  have hlen := h.len
  have hfit : off + n * size + ys.flatten.length ≤ xs.length := by omega
  refine ⟨by rw [List.length_append, h.cnt], hr, by rw [putAt_length _ _ _ hfit]; exact h.len, ?_, fun e he => (List.mem_append.1 he).elim (h.sz e) (hy e), h.nil⟩
  apply List.ext_getElem?
  intro i
  rw [List.getElem?_take, List.getElem?_drop, List.flatten_append]
  by_cases hi : i < (n + ys.length) * size
  · rw [if_pos hi, putAt_get _ _ _ hfit]
    by_cases h2 : i < n * size
    · rw [if_neg (by omega), List.getElem?_append_left (by omega), ← h.cells, List.getElem?_take, if_pos h2, List.getElem?_drop]
    · rw [if_pos (by omega), List.getElem?_append_right (by omega), hel]
      congr 1; omega
  · rw [if_neg hi, List.getElem?_eq_none]
    rw [List.length_append]; omega
section
variable {P : Program} {env : List (Nat × LV)} {H : List Atom} {K : LS → Prop} {ty : TypeId} {pos : String} {af : Array Edge} {g : Option (Nat × Bool)} {n0 : NN}
/-- append(s, x..) whose row is owned, or is not there yet. -/
theorem X.appendR {H1 : List Atom} {A : Option Nat} {te : TypeId} {off n c : Nat} {xs : List LV} {s x : Operand} {t tx e : TypeId} {z : Value} {size by_ : Nat} {es ys : List (List LV)} {y : LV} {d : Tmp} (ow : OwnS size es A off n c xs) (hh : HSub H (ownA A te xs ++ H1)) (hd : Nat.blt d n0.k = true) (ht : P.underlying t = some (.slice e)) (hel : El P e z size by_) (hz1 : ∀ (i : Nat) (c : Value), z.cells[i]? = some c → c.oneCell' = true)
    (hs : Is (ev env s) (ownV A off n c)) (hx : Is (ev env x) y) (hy : SrcL P tx size y ys) (hy0 : 0 < ys.length) (hb : (n + ys.length) * by_ ≤ 140737488355328) (hb0 : n + ys.length ≤ 9223372036854775807)
    (h : ∀ b te' off' c' xs', OwnS size (es ++ ys) (some b) off' (n + ys.length) c' xs' → K ⟨n0, (d, ownV (some b) off' (n + ys.length) c') :: env, .cells b te' xs' :: H1⟩) :
    LO P ⟨some d, .call { callee := .builtin .append, args := #[s, x], argTypes := #[t, tx] }, ty, pos, af, g⟩ ⟨n0, env, H⟩ K := .of_run hd fun w0 ph a w rl => by
  have h1 := (hs _ _ (rl.tmps.eval s)).rawE
  have ry := hx _ _ (rl.tmps.eval x)
  obtain ⟨⟨i, hi, hz, hsz, hby⟩, hzs, hs0⟩ := hel
  have hinv0 := hh.app rl.inv
  obtain ⟨news, hsrc, hnc⟩ := hy.2 w0 ph w _ (a.eval x) (by simp) rl.inv ry
  have hnl : news.length = ys.length * size := hsrc.newsLen
  have hyl := flat_len hy.1
  have hrun : ∀ v w', (Builtin.append_ #[t, tx] ty #[.slice (A.map fun b => ⟨b, off, none⟩) n c, a.eval x]).run P w = .ok v w' → (execOp a.eval ⟨some d, .call { callee := .builtin .append, args := #[s, x], argTypes := #[t, tx] }, ty, pos, af, g⟩).run P w = .ok (.value v) w' := fun v w' h => by
    simp [execOp, resolve, invoke, builtin, h1, h]
  by_cases hroom : n + ys.length ≤ c
  · cases A with
    | none => have := ow.nil rfl; omega
    | some b =>
      have hinv : Inv w0 ph w (.cells b te xs :: H1) := hinv0
      have hm : (n + ys.length) * size ≤ c * size := Nat.mul_le_mul_right _ hroom
      have hdm : (n + ys.length) * size = n * size + ys.length * size := Nat.add_mul _ _ _
      have hlen := ow.len
      obtain ⟨hi2, hthere, hfro⟩ := hinv.putCells hnc (off := off + n * size) (by omega)
      have hr := run_append_room_src (P := P) w t tx ty e i ht hi b off n c (a.eval x) ys.length news (hsz ▸ hsrc) hroom (fun j hj => by rw [hsz]; exact hthere j (by omega)) (fun j hj => by rw [hsz]; exact hfro j (by omega))
      rw [hsz] at hr
      exact ⟨_, _, _, ph, _, hrun _ _ hr, PH.le.refl _, hi2, .raw _, h b te off c _ (ow.put hy.1 hroom)⟩
  · have hold : ∃ olds : List Value, CReps ph olds.toArray es.flatten ∧ (Builtin.firstCells i.size n (.slice (A.map fun b => ⟨b, off, none⟩) n c)).run P w.drew = .ok olds.toArray w.drew := by
      have hel2 := flat_len ow.sz
      rw [ow.cnt] at hel2
      cases A with
      | none =>
        have hc0 := ow.nil rfl
        have hn0 : n = 0 := by have := ow.le; omega
        have he0 : es = [] := List.eq_nil_of_length_eq_zero (by rw [ow.cnt]; exact hn0)
        subst hn0; subst he0
        exact ⟨[], ⟨⟨rfl, by simp⟩, by simp⟩, run_firstCells_none _ _ _ _ _⟩
      | some b =>
        have hinv : Inv w0 ph w (.cells b te xs :: H1) := hinv0
        obtain ⟨F, hF, cs, hhp, hc⟩ := hinv.atom
        have hcsz : cs.size = xs.length := hc.1.1
        have hlen := ow.len
        have hm : n * size ≤ c * size := Nat.mul_le_mul_right _ ow.le
        refine ⟨(cs.extract off (off + n * size)).toList, ?_, run_firstCells_some _ _ _ _ _ _ _ (by simp [hsz]; omega) (fun j v hv => ?_)⟩
        · rw [Array.toArray_toList, ← ow.cells]
          refine ⟨⟨by simp; omega, fun i v x hv hx => ?_⟩, fun i v hv => ?_⟩
          · rw [Array.getElem?_extract] at hv
            rw [List.getElem?_take] at hx
            split at hx
            · rw [List.getElem?_drop] at hx
              split at hv
              · exact hc.1.2 _ v x hv hx
              · cases hv
            · cases hx
          · rw [Array.getElem?_extract] at hv
            split at hv
            · exact hc.2 _ v hv
            · cases hv
        · rw [Array.getElem?_toList, Array.getElem?_extract] at hv
          split at hv
          · show w.drew.cell? ((⟨b, off, none⟩ : Addr).add j) = some v
            rw [Addr.add_lit]
            show w.cell? ⟨b, off + j, none⟩ = some v
            rw [cell_of_row w b (off + j) cs te (0, 0) hhp]
            exact hv
          · cases hv
    obtain ⟨olds, ho, hold⟩ := hold
    have hr := run_append_grow_src (P := P) w t tx ty e i z ht hi hz (A.map fun b => ⟨b, off, none⟩) n c olds hold (a.eval x) ys.length news (hsz ▸ hsrc) (by omega) (by omega) (by rw [hby]; exact growslice_fits (by omega) hb)
    have hge := grownCap_ge w (n + ys.length) c e
    have hb' : Below w.heap.size w w.drew := Below.drew (Below.refl _ _)
    have hinv1 : Inv w0 ph w H1 := by
      cases A with
      | none => exact hinv0
      | some b => exact (HSub.drop (HSub.refl _)).app hinv0
    have hinv2 := hinv1.step hb'
    have hzc : CReps ph (Builtin.zeroCells z.cells (grownCap w (n + ys.length) c e - (n + ys.length))).toList.toArray (raws (Builtin.zeroCells z.cells (grownCap w (n + ys.length) c e - (n + ys.length))).toList) := by
      rw [Array.toArray_toList]
      refine raws_creps fun j c hc => ?_
      unfold Builtin.zeroCells at hc
      simp only [Array.getElem?_map, Option.map_eq_some_iff] at hc
      obtain ⟨q, _, rfl⟩ := hc
      have hlt : q % z.cells.size < z.cells.size := Nat.mod_lt _ (by omega)
      refine hz1 (q % z.cells.size) _ ?_
      rw [Array.getElem?_eq_getElem hlt, getElem!_pos z.cells _ hlt]
    have hall := creps_append (creps_append ho hnc) hzc
    have hinv3 := hinv2.block e hall
    have hel2 := flat_len ow.sz
    rw [ow.cnt] at hel2
    have hzl : (raws (Builtin.zeroCells z.cells (grownCap w (n + ys.length) c e - (n + ys.length))).toList).length = (grownCap w (n + ys.length) c e - (n + ys.length)) * size := by simp only [raws, List.length_map, Array.length_toList, size_zeros, hzs]
    refine ⟨_, _, _, ph, _, hrun _ _ hr, PH.le.refl _, ?_, .raw _, h w.heap.size e 0 (grownCap w (n + ys.length) c e) (es.flatten ++ ys.flatten ++ raws (Builtin.zeroCells z.cells (grownCap w (n + ys.length) c e - (n + ys.length))).toList) ⟨by rw [List.length_append, ow.cnt], hge, ?_, ?_, fun e he => (List.mem_append.1 he).elim (ow.sz e) (hy.1 e), fun h => by cases h⟩⟩
    · have e1 : ((olds ++ news).toArray ++ Builtin.zeroCells z.cells (grownCap w (n + ys.length) c e - (n + ys.length))) = ((olds ++ news) ++ (Builtin.zeroCells z.cells (grownCap w (n + ys.length) c e - (n + ys.length))).toList).toArray := by simp
      rw [e1]
      exact hinv3
    · refine Nat.le_of_eq (Eq.symm ?_)
      rw [List.length_append, List.length_append, hel2, hyl, hzl, Nat.zero_add, ← Nat.add_mul, ← Nat.add_mul]
      congr 1; omega
    · rw [List.drop_zero, List.flatten_append, List.take_append_of_le_length (by rw [List.length_append, hel2, hyl, ← Nat.add_mul]; exact Nat.le_refl _), List.take_of_length_le (by rw [List.length_append, hel2, hyl, ← Nat.add_mul]; exact Nat.le_refl _)]
end
theorem LO.ghost {P : Program} {o : Oper} {st : LS} {H' : List Atom} {K : LS → Prop} (hh : HSub st.heap H') (h : LO P o ⟨st.n, st.env, H'⟩ K) : LO P o st K := fun w0 ph a w r => h w0 ph a w ⟨hh.app r.inv, r.defers, r.size, r.tmps⟩
/-- An append onto a slice whose room lies somewhere among what is owned. -/
theorem X.appendP {P : Program} {n : NN} {env : List (Nat × LV)} {H H1 : List Atom} {K : LS → Prop} {ty : TypeId} {pos : String} {af : Array Edge} {g : Option (Nat × Bool)} {s x : Operand} {t tx e : TypeId} {z : Value} {size by_ : Nat} {es ys : List (List LV)} {y : LV} {d : Tmp} {b o c : Nat} (hh : HSub H (.tail b o c :: H1)) (hd : Nat.blt d n.k = true) (ht : P.underlying t = some (.slice e)) (hel : El P e z size by_)
    (hs : Is (ev env s) (.sl size es (.tok b o c))) (hx : Is (ev env x) y) (hy : SrcL P tx size y ys) (hb : (es.length + ys.length) * by_ ≤ 140737488355328) (hb0 : es.length + ys.length ≤ 9223372036854775807)
    (h : ∀ b' o' c', K ⟨n, (d, .sl size (es ++ ys) (.tok b' o' c')) :: env, .tail b' o' c' :: H1⟩) : LO P ⟨some d, .call { callee := .builtin .append, args := #[s, x], argTypes := #[t, tx] }, ty, pos, af, g⟩ ⟨n, env, H⟩ K :=
  LO.ghost (st := ⟨n, env, H⟩) hh (X.appendG (A0 := []) 0 rfl hd ht hel hs hx (by simp) hy hb hb0 h)
/-- An owned slice, from now on by its content. -/
theorem LW.freezeOw {P : Program} {nn : NN} {env : List (Nat × LV)} {H H1 : List Atom} {cd : Code} {Q : Exit → LS → Prop} {t : Nat} {A : Option Nat} {te : TypeId} {off n c size : Nat} {xs : List LV} {es : List (List LV)} (hh : HSub H (ownA A te xs ++ H1)) (ht : get env t = ownV A off n c) (ow : OwnS size es A off n c xs)
    (h : LW P cd ⟨nn, (t, .sl size es .unk) :: env, H1⟩ Q) : LW P cd ⟨nn, env, H⟩ Q := by
  refine X.wghost hh ?_
  cases A with
  | none =>
    have hc := ow.nil rfl
    have hn : n = 0 := by have := ow.le; omega
    have he : es = [] := List.eq_nil_of_length_eq_zero (by rw [ow.cnt]; exact hn)
    subst he
    refine X.wweak (t := t) (v := .sl size [] .unk) ?_ h
    rw [ht, hc, hn]
    exact (Is.nil size).trans Is.unk
  | some b =>
    have hm : n * size ≤ c * size := Nat.mul_le_mul_right _ ow.le
    have hl := ow.len
    exact LW.freeze (t := t) (st := ⟨nn, env, .cells b te xs :: H1⟩) 0 rfl ht ow.sz ow.cnt (by omega) ow.cells.symm ow.le h
end Go.L

set_option linter.unusedVariables false
set_option linter.unusedSimpArgs false
namespace Go.L
open Go.RowKit
structure Vx where
  p : Hs
  n : Int
deriving DecidableEq
abbrev vxs1 (a : Vx) : List Value := (a.p.1.map fun b => Value.int .u8 b.toNat) ++ [.int .i64 a.n]
abbrev vxV (a : Vx) : Value := .agg (vxs1 a).toArray
abbrev vxL (a : Vx) : List LV := hsL a.p ++ [.raw (.int .i64 a.n)]
theorem vx_ext {a b : Vx} (h1 : a.p = b.p) (h2 : a.n = b.n) : a = b := by cases a; cases b; simp at h1 h2; simp [h1, h2]
theorem vx_raw (a : Vx) : RawL (vxL a) (vxs1 a) := by
  have h : vxL a = raws (vxs1 a) := by
    unfold raws vxs1
    rw [List.map_append, List.map_map]; rfl
  rw [h]
  exact RawL.raws _
theorem vxL_len (a : Vx) : (vxL a).length = 33 := by simp [a.p.2]
/-- A type of a hash and a number. -/
structure VxTy (P : Program) (kt : TypeId) : Prop where
  ex : ∃ (fs : Array Field) (f0 f1 : Field) (e : TypeId), P.underlying kt = some (.struct fs) ∧ fs.toList = [f0, f1] ∧ P.stoodInHeld kt = false ∧ P.eqGuardType P.depth kt = false ∧ (f0.name != "_") = true ∧ (f1.name != "_") = true ∧ f0.offset = 0 ∧ f1.offset = 32 ∧
    P.underlying f0.type = some (.array 32 e) ∧ P.underlying e = some (.int .u8) ∧ (∀ w, (sizeOf e).run P w = .ok 1 w) ∧ (∀ w, (sizeOf f0.type).run P w = .ok 32 w) ∧ (∀ w, (isAgg f0.type).run P w = .ok true w) ∧ P.underlying f1.type = some (.int .i64) ∧ (∀ w, (isAgg f1.type).run P w = .ok false w)
section
variable {P : Program} {kt : TypeId}
theorem vx_part0 (a : Vx) : (vxs1 a).toArray.extract 0 (0 + 32) = (a.p.1.map fun b => Value.int .u8 b.toNat).toArray := by
  rw [List.extract_toArray, List.extract_eq_take_drop]
  simp only [List.drop_zero, Nat.zero_add, Nat.sub_zero]
  rw [List.take_left' (by rw [List.length_map]; exact a.p.2)]
theorem vx_part1 (a : Vx) : (vxs1 a).toArray[32]? = some (.int .i64 a.n) := by
  rw [List.getElem?_toArray, List.getElem?_append_right (by rw [List.length_map, a.p.2]; exact Nat.le_refl _), List.length_map, a.p.2]; rfl
theorem EqR.vx (h : VxTy P kt) (a b : Vx) : EqR P 3 kt (vxV a) (vxV b) (decide (a = b)) := by
  obtain ⟨fs, f0, f1, e, ht, hfs, hst, hg, hn0, hn1, ho0, ho1, ht0, he, hse, hs0, ha0, ht1, ha1⟩ := h.ex
  have h0 : EqR P 2 f0.type (.agg (a.p.1.map fun b => Value.int .u8 b.toNat).toArray) (.agg (b.p.1.map fun b => Value.int .u8 b.toNat).toArray) (decide (a.p = b.p)) := by
    have := EqR.arr ht0 he hse (k := .u8) (a.p.1.map UInt8.toNat) (b.p.1.map UInt8.toNat) (by rw [List.length_map]; exact a.p.2) (by rw [List.length_map]; exact b.p.2)
    rw [← hs_nat, ← hs_nat, hs_dec] at this
    exact this
  have h1 : EqR P 2 f1.type (.int .i64 a.n) (.int .i64 b.n) (decide (a.n = b.n)) := EqR.up 1 (EqR.int ht1)
  have := EqR.struct (xs := (vxs1 a).toArray) (ys := (vxs1 b).toArray) ht hst (by
    rw [hfs]
    exact EqFs.cons hn0 (part_agg hs0 ha0 (by rw [ho0]; exact vx_part0 a)) (part_agg hs0 ha0 (by rw [ho0]; exact vx_part0 b)) h0
      (EqFs.one hn1 (part_one ha1 (by rw [ho1]; exact vx_part1 a)) (part_one ha1 (by rw [ho1]; exact vx_part1 b)) h1))
  have hd : (decide (a.p = b.p) && decide (a.n = b.n)) = decide (a = b) := by
    rw [Bool.eq_iff_iff]
    simp only [Bool.and_eq_true, decide_eq_true_eq]
    exact ⟨fun ⟨x, y⟩ => vx_ext x y, fun x => by rw [x]; exact ⟨rfl, rfl⟩⟩
  rw [hd] at this
  exact this
theorem eq_vx (h : VxTy P kt) (a b : Vx) (w : World) : (Op.equal kt (vxV a) (vxV b)).run P w = .ok (decide (b = a)) w := by
  have := EqR.vx h a b 9997 w
  rw [show decide (a = b) = decide (b = a) from by rw [Bool.eq_iff_iff]; simp only [decide_eq_true_eq]; exact ⟨Eq.symm, Eq.symm⟩] at this
  exact this
theorem asking_vx (h : VxTy P kt) (a : Vx) (w : World) : ∀ (es : List MapEntry) (l : List (Vx × LV)) (n : Nat), es.map (·.key) = l.map (fun p => vxV p.1) → (Instr.findAsking kt (vxV a) es n).run P w = .ok ((idxM l a).bind fun i => (es[i]?).map fun x => (n + i, x.val)) w
  | [], [], n, _ => by simp [Instr.findAsking, idxM]
  | [], p :: l, n, h => by simp at h
  | x :: es, [], n, h => by simp at h
  | x :: es, p :: l, n, hh => by
    simp only [List.map_cons, List.cons.injEq] at hh
    rw [Instr.findAsking]
    simp only [Sem.run_bind, hh.1, eq_vx h a p.1 w, Result.andThen_ok]
    by_cases c : p.1 = a
    · simp [idxM, c]
    · have ih := asking_vx h a w es l (n + 1) hh.2
      simp only [c, decide_false, Bool.false_eq_true, if_false, idxM]
      rw [ih]
      cases idxM l a with
      | none => rfl
      | some i => simp only [Option.bind_some, Option.map_some, List.getElem?_cons_succ]; rw [show n + 1 + i = n + (i + 1) by omega]
theorem check_arr {t e : TypeId} (ht : P.underlying t = some (.array 32 e)) (he : P.underlying e = some (.int .u8)) (hsz : ∀ w, (sizeOf e).run P w = .ok 1 w) (a : Hs) (n : Nat) (b : Bool) (w : World) : (Instr.checkKey b (n + 2) t (hsKey a)).run P w = .ok () w := by
  rw [Instr.checkKey]
  simp only [Sem.run_bind, run_underlying ht, Result.andThen_ok, Std.Legacy.Range.forIn_eq_forIn_range', Std.Legacy.Range.size, Nat.sub_zero, Nat.add_sub_cancel, Nat.div_one]
  have hl : ∀ i ∈ List.range' 0 32 1, i < 32 := fun i hi => by simpa using (List.mem_range'_1.1 hi).2
  have ha := a.2
  generalize List.range' 0 32 1 = l at hl ⊢
  induction l with
  | nil => simp
  | cons i l ih =>
    have hi : i < 32 := hl i (by simp)
    have px : (part e (a.1.map fun b => Value.int .u8 b.toNat).toArray (i * 1)).run P w = .ok (.int .u8 (a.1.getD i 0).toNat) w := by
      simp [part, isAgg, run_underlying he, List.getD, List.getElem?_eq_getElem (show i < a.1.length by omega)]
    have pc : ∀ v, (Instr.checkKey b (n + 1) e (.int .u8 v)).run P w = .ok () w := fun v => by
      rw [Instr.checkKey]
      simp [run_underlying he]
    simp only [List.forIn_cons, Sem.run_bind, hsz, px, pc, Result.andThen_ok, Sem.run_pure]
    exact ih fun j hj => hl j (by simp [hj])
theorem KeyOk.vx (h : VxTy P kt) : KeyOk P kt vxV where
  check a b w := by
    obtain ⟨fs, f0, f1, e, ht, hfs, hst, hg, hn0, hn1, ho0, ho1, ht0, he, hse, hs0, ha0, ht1, ha1⟩ := h.ex
    rw [Instr.checkKey]
    have p0 : (part f0.type (vxs1 a).toArray f0.offset).run P w = .ok (hsKey a.p) w := part_agg hs0 ha0 (by rw [ho0]; exact vx_part0 a) w
    have p1 : (part f1.type (vxs1 a).toArray f1.offset).run P w = .ok (.int .i64 a.n) w := part_one ha1 (by rw [ho1]; exact vx_part1 a) w
    have c0 := check_arr ht0 he hse a.p 9997 b w
    have c1 : (Instr.checkKey b 9999 f1.type (.int .i64 a.n)).run P w = .ok () w := by
      rw [Instr.checkKey]
      simp [run_underlying ht1]
    have n0 : f0.name ≠ "_" := by simpa using hn0
    have n1 : f1.name ≠ "_" := by simpa using hn1
    have hfa : fs = #[f0, f1] := by rw [← Array.toArray_toList (xs := fs), hfs]
    simp only [Sem.run_bind, run_underlying ht, Result.andThen_ok, hfa]
    simp [n0, n1, p0, p1, c0, c1]
  find a es l w hh := by
    obtain ⟨fs, f0, f1, e, ht, _⟩ := h.ex
    unfold Instr.findKey
    simp only [Sem.run_bind, run_underlying ht, Result.andThen_ok]
    cases es with
    | nil =>
      cases l with
      | nil => simp [Instr.findNow, idxM]
      | cons p l => simp at hh
    | cons x es =>
      cases l with
      | nil => simp at hh
      | cons p l =>
        have hx : x.key = vxV p.1 := by simp only [List.map_cons, List.cons.injEq] at hh; exact hh.1
        have hn : Instr.findNow (.struct fs) (vxV a) (x :: es) 0 = none := by rw [Instr.findNow, hx]; rfl
        rw [hn]
        have := asking_vx h a w (x :: es) (p :: l) 0 hh
        simpa using this
  stays a := by
    show Instr.sameBits 10000 (.agg _) (.agg _) = true
    rw [Instr.sameBits]
    simp only [beq_self_eq_true, Bool.true_and]
    rw [List.all_eq_true]
    intro q hq
    obtain ⟨i, hi, rfl⟩ := List.getElem_of_mem hq
    simp only [List.getElem_zip, List.getElem_toArray]
    have : ∀ v ∈ vxs1 a, Instr.sameBits 9999 v v = true := fun v hv => by
      rcases List.mem_append.1 hv with e | e
      · obtain ⟨x, _, rfl⟩ := List.mem_map.1 e
        simp [Instr.sameBits]
      · rw [List.mem_singleton.1 e]; simp [Instr.sameBits]
    exact this _ (List.getElem_mem _)
theorem Is.vx (a : Vx) : Is (.agg (vxL a)) (.raw (vxV a)) := by
  rw [(vx_raw a).eq]
  exact Is.agg_raw
variable {env : List (Nat × LV)} {H : List Atom} {d : Option Tmp} {ty : TypeId} {pos : String} {af : Array Edge} {g : Option (Nat × Bool)}
theorem LU.eqlVx {x y : Operand} {t' : TypeId} {a b : Vx} (h : VxTy P kt) (hx : Is (ev env x) (.agg (vxL a))) (hy : Is (ev env y) (.agg (vxL b))) : LU P env H ⟨d, .binOp .eql kt x y t', ty, pos, af, g⟩ (.raw (.bool (decide (a = b)))) := by
  obtain ⟨fs, f0, f1, e, ht, hfs, hst, hg, _⟩ := id h.ex
  exact LU.eqlA hx hy (vx_raw a) (vx_raw b) hg (by decide) (EqR.vx h a b)
theorem LU.neqVx {x y : Operand} {t' : TypeId} {a b : Vx} (h : VxTy P kt) (hx : Is (ev env x) (.agg (vxL a))) (hy : Is (ev env y) (.agg (vxL b))) : LU P env H ⟨d, .binOp .neq kt x y t', ty, pos, af, g⟩ (.raw (.bool (!decide (a = b)))) := by
  obtain ⟨fs, f0, f1, e, ht, hfs, hst, hg, _⟩ := id h.ex
  exact LU.neqA hx hy (vx_raw a) (vx_raw b) hg (by decide) (EqR.vx h a b)
end
end Go.L

set_option linter.unusedVariables false
set_option linter.unusedSimpArgs false
namespace Go.L
open Go.RowKit Go.Lib
theorem ext_compare {P : Program} (a b : List UInt8) (pa pb : Addr) (ka kb : Nat) (W : World) (ha : ∀ j x, a[j]? = some x → W.cell? (pa.add j) = some (.int .u8 x.toNat)) (hb : ∀ j x, b[j]? = some x → W.cell? (pb.add j) = some (.int .u8 x.toNat)) :
    (Extern.BytealgCompare.compare #[.slice (some pa) a.length ka, .slice (some pb) b.length kb]).run P W = .ok (.int .i64 (compareBytes a b)) W := by
  have key : ∀ (l : List UInt8) (p : Addr), (∀ j x, l[j]? = some x → W.cell? (p.add j) = some (.int .u8 x.toNat)) → (Extern.Bytes.loadBytes p l.length .empty).run P W = .ok ⟨l.toArray⟩ W := fun l p h => by
    have h1 := run_loadBytesX (P := P) W (numsL l) p .empty (fun j x hx => by
      unfold numsL at hx
      rw [List.getElem?_map] at hx
      cases hl : l[j]? with
      | none => rw [hl] at hx; cases hx
      | some y => rw [hl] at hx; rw [h j y hl, ← Option.some.inj hx])
    rw [show (numsL l).length = l.length by unfold numsL; exact List.length_map ..] at h1
    rw [h1, bytesOf_numsL]
    congr 1
    apply ByteArray.ext
    show (#[] : Array UInt8) ++ l.toArray = l.toArray
    simp
  have h1 := key a pa ha
  have h2 := key b pb hb
  change Sem.run P (do pure (goInt (Extern.BytealgCompare.cmp (← Extern.Bytes.bytesOf (.slice (some pa) a.length ka)) (← Extern.Bytes.bytesOf (.slice (some pb) b.length kb))))) W = _
  simp only [Extern.Bytes.bytesOf, Sem.run_bind, h1, h2, Sem.run_pure, Result.andThen_ok]
  rw [cmp_eq]
  rfl
theorem bytes_form {w0 : Base} {ph : PH} {w : World} {H : List Atom} {u : Value} {l : List UInt8} {k : Cap} (hinv : Inv w0 ph w H) (h0 : l ≠ []) (r : Rep ph u (.sl 1 (byteEls l) k)) : ∃ p c, u = .slice (some p) l.length c ∧ ∀ j x, l[j]? = some x → w.cell? (p.add j) = some (.int .u8 x.toNat) := by
  obtain ⟨A, n, c, hu⟩ := rep_slice_form r
  rw [hu] at r
  obtain ⟨hn, hcell⟩ := bytes_cells hinv r
  cases A with
  | none =>
    cases l with
    | nil => exact absurd rfl h0
    | cons b l =>
      cases r with | sl _ _ _ _ _ _ ad u hA hn hnc hs hcap hp hr =>
        have := hA (by simp [byteEls])
        cases this
  | some p =>
    refine ⟨p, c, by rw [hu, hn], fun j x hx => ?_⟩
    have := hcell p rfl j (.int .u8 x.toNat) (by rw [List.getElem?_map, hx]; rfl)
    exact this
section
variable {P : Program} {env : List (Nat × LV)} {H : List Atom} {d : Option Tmp} {ty : TypeId} {pos : String} {af : Array Edge} {g : Option (Nat × Bool)}
theorem LU.bcmp {f : FuncId} {fn : Func} {x y : Operand} {ts : Array TypeId} {a b : List UInt8} {ka kb : Cap} (hf : P.funcs[f]? = some fn) (hname : (fn.name == "runtime.NumGoroutine") = false) (hb : fn.body.isNone = true) (hn : Extern.findNext fn = none) (he : Extern.find fn = some Extern.BytealgCompare.compare) (ha0 : a ≠ []) (hb0 : b ≠ [])
    (hx : Is (ev env x) (.sl 1 (byteEls a) ka)) (hy : Is (ev env y) (.sl 1 (byteEls b) kb)) : LU P env H ⟨d, .call { callee := .value (.func f), args := #[x, y], argTypes := ts }, ty, pos, af, g⟩ (.raw (.int .i64 (compareBytes a b))) := .of_run fun ph ac hl w0 w hinv => by
  obtain ⟨pa, ca, h1, h2⟩ := bytes_form hinv ha0 (hx _ _ (hl x (by simp [Op.operands, Call.operands])))
  obtain ⟨pb, cb, h3, h4⟩ := bytes_form hinv hb0 (hy _ _ (hl y (by simp [Op.operands, Call.operands])))
  refine ⟨_, ?_, .raw _⟩
  have e : (execOp ac.eval ⟨d, .call { callee := .value (.func f), args := #[x, y], argTypes := ts }, ty, pos, af, g⟩).run P w = (callFunc f #[ac.eval x, ac.eval y]).run P w := by
    simp [execOp, resolve, Deferred.ofValue, invoke, Act.eval]
  rw [e, h1, h3, run_callFunc_extern hf hname hb hn he, ext_compare a b pa pb ca cb w h2 h4]
  rfl
end
end Go.L

set_option linter.unusedVariables false
set_option linter.unusedSimpArgs false
namespace Go.L
open Go.RowKit
theorem zero_one (zs : Array Value) : (Builtin.zeroCells zs 1).toList = zs.toList := by
  unfold Builtin.zeroCells
  apply List.ext_getElem
  · simp
  · intro i h1 h2
    have hi : i < zs.size := by simpa using h2
    simp only [Array.toList_map, Array.toList_range, List.getElem_map, List.getElem_range, Nat.mod_eq_of_lt hi]
    rw [getElem!_pos zs i hi]
    simp
theorem run_clear_one {P : Program} (w : World) (t e ty : TypeId) (z : Value) (ht : P.underlying t = some (.slice e)) (hv : ∀ w, (zeroValue e).run P w = .ok z w) (h1 : ∀ v ∈ z.cells.toList, v.oneCell' = true) (b o c : Nat)
    (hc : ∀ j, j < z.cells.toList.length → (w.cell? ⟨b, o + j, none⟩).isSome = true) (hf : ∀ j, j < z.cells.toList.length → w.frozen? ⟨b, o + j, none⟩ = false) :
    (Builtin.clear_ #[t] ty #[.slice (some ⟨b, o, none⟩) 1 c]).run P w = .ok (.tuple #[]) (w.setCells b o z.cells.toList) := by
  have hst := run_storeCells_cells (P := P) b o z.cells.toList 0 w (by simpa using hc) (by simpa using hf) h1
  simp only [Nat.add_zero] at hst
  simp [Builtin.clear_, run_underlying ht, hv, zero_one, hst]
theorem LO.clear1 {P : Program} {st : LS} {K : LS → Prop} {ty : TypeId} {pos : String} {af : Array Edge} {g : Option (Nat × Bool)} {s : Operand} {t e te : TypeId} {z : Value} {b off c : Nat} {xs : List LV} (k : Nat) (hk : st.heap[k]? = some (.cells b te xs)) (ht : P.underlying t = some (.slice e)) (hv : ∀ w, (zeroValue e).run P w = .ok z w) (h1z : ∀ (i : Nat) (c : Value), z.cells[i]? = some c → c.oneCell' = true)
    (hs : Is (ev st.env s) (.raw (.slice (some ⟨b, off, none⟩) 1 c))) (hfit : off + z.cells.toList.length ≤ xs.length)
    (h : K ⟨st.n, st.env, .cells b te (putAt xs off (raws z.cells.toList)) :: st.heap.eraseIdx k⟩) :
    LO P ⟨none, .call { callee := .builtin .clear, args := #[s], argTypes := #[t] }, ty, pos, af, g⟩ st K := fun w0 ph a w rl N Q kk => by
  have h1 := (hs _ _ (rl.tmps.eval s)).rawE
  have hinv := rl.inv.front k
  unfold L.front at hinv
  rw [hk] at hinv
  have hc : CReps ph z.cells.toList.toArray (raws z.cells.toList) := by
    rw [Array.toArray_toList]
    exact raws_creps h1z
  obtain ⟨hi2, hthere, hfro⟩ := hinv.putCells hc (off := off) (by simpa [raws] using hfit)
  have hr := run_clear_one (P := P) w t e ty z ht hv (fun v hv => by
    obtain ⟨i, hi⟩ := List.getElem?_of_mem hv
    exact h1z i v (by rw [← Array.getElem?_toList]; exact hi)) b off c (by simpa [raws] using hthere) (by simpa [raws] using hfro)
  unfold owp
  have hrun : (execOp a.eval ⟨none, .call { callee := .builtin .clear, args := #[s], argTypes := #[t] }, ty, pos, af, g⟩).run P w = .ok (.value (.tuple #[])) (w.setCells b off z.cells.toList) := by
    simp [execOp, resolve, invoke, builtin, h1, hr]
  rw [hrun]
  exact kk ph _ _ _ (PH.le.refl _) (rl.put0 (PH.le.refl _) hi2 _) h
/-- An owned slice without one of its elements, when what is behind it has moved up. -/
theorem OwnS.erase {size : Nat} {es : List (List LV)} {A : Option Nat} {off n c : Nat} {xs zs : List LV} (h : OwnS size es A off n c xs) {i : Nat} (hi : i < n) (hz : zs.length = size) :
    OwnS size (es.eraseIdx i) A off (n - 1) c (putAt (putAt xs (off + i * size) (es.drop (i + 1)).flatten) (off + (n - 1) * size) zs) := by
  have hcnt := h.cnt
  have hle := h.le
  have hlen := h.len
  have hf1 : (es.take i).flatten.length = i * size := by
    rw [flat_len fun e he => h.sz e (List.mem_of_mem_take he), List.length_take, Nat.min_eq_left (by omega)]
  have hf2 : (es.drop (i + 1)).flatten.length = (n - 1 - i) * size := by
    rw [flat_len fun e he => h.sz e (List.mem_of_mem_drop he), List.length_drop, hcnt, show n - (i + 1) = n - 1 - i by omega]
  have hs1 : (n - 1) * size = i * size + (n - 1 - i) * size := by rw [← Nat.add_mul, show i + (n - 1 - i) = n - 1 by omega]
  have hs2 : n * size = (n - 1) * size + size := by
    obtain ⟨q, rfl⟩ : ∃ q, n = q + 1 := ⟨n - 1, by omega⟩
    rw [Nat.succ_mul]; rfl
  have hs3 : n * size ≤ c * size := Nat.mul_le_mul_right _ hle
  have hfit1 : off + i * size + (es.drop (i + 1)).flatten.length ≤ xs.length := by omega
  obtain ⟨X, hX⟩ : ∃ X, X = putAt xs (off + i * size) (es.drop (i + 1)).flatten := ⟨_, rfl⟩
  have hXl : X.length = xs.length := by rw [hX]; exact putAt_length _ _ _ hfit1
  have hfit2 : off + (n - 1) * size + zs.length ≤ X.length := by omega
  rw [← hX]
  refine ⟨by rw [List.length_eraseIdx_of_lt (by omega)]; omega, by omega, by rw [putAt_length _ _ _ hfit2]; omega, ?_, fun e he => h.sz e (List.mem_of_mem_eraseIdx he), h.nil⟩
  have hold : (xs.drop off).take (i * size) = (es.take i).flatten := by
    have h2 := congrArg (List.take (i * size)) h.cells
    rw [List.take_take, Nat.min_eq_left (by omega)] at h2
    rw [h2]
    conv => lhs; rw [← List.take_append_drop i es, List.flatten_append]
    rw [List.take_left' hf1]
  have hX2 : (X.drop off).take ((n - 1) * size) = (es.take i).flatten ++ (es.drop (i + 1)).flatten := by
    rw [hX]
    unfold putAt
    have ht : (xs.take (off + i * size)).drop off = (es.take i).flatten := by
      rw [List.drop_take, Nat.add_sub_cancel_left]; exact hold
    rw [List.append_assoc, List.drop_append_of_le_length (by rw [List.length_take]; omega), ht, ← List.append_assoc, List.take_append_of_le_length (by rw [List.length_append, hf1, hf2]; omega), List.take_of_length_le (by rw [List.length_append, hf1, hf2]; omega)]
  rw [List.eraseIdx_eq_take_drop_succ, List.flatten_append, ← hX2]
  unfold putAt
  rw [List.append_assoc, List.drop_append_of_le_length (by rw [List.length_take]; omega), List.drop_take, Nat.add_sub_cancel_left, List.take_append_of_le_length (by rw [List.length_take, List.length_drop]; omega), List.take_take, Nat.min_self]
end Go.L

set_option linter.unusedVariables false
set_option linter.unusedSimpArgs false
namespace Go.L
open Go.RowKit
section
variable {P : Program} {st : LS} {K : LS → Prop}
/-- An owned slice is from now on known: between operations. -/
theorem LL.freezeO {ops : Array Oper} {l : List Oper} {t : Nat} {b : Nat} {te : TypeId} {xs : List LV} {off n c size : Nat} {es : List (List LV)} (k : Nat) (hk : st.heap[k]? = some (.cells b te xs)) (ht : get st.env t = ownV (some b) off n c) (ow : OwnS size es (some b) off n c xs)
    (h : LL P ops l ⟨st.n, (t, .sl size es .unk) :: st.env, st.heap.eraseIdx k⟩ K) : LL P ops l st K := fun w0 ph a w r Q q => by
  have hinv := r.inv.front k
  unfold L.front at hinv
  rw [hk] at hinv
  obtain ⟨cs, ph', hle, hi, hc, hsz, hp⟩ := hinv.freeze
  refine h w0 ph' a w ⟨hi, r.defers, r.size, fun i => ?_⟩ Q fun ph2 st2 a2 w2 hle2 r2 q2 => q ph2 st2 a2 w2 (hle.trans hle2) r2 q2
  have hm : n * size ≤ c * size := Nat.mul_le_mul_right _ ow.le
  have hl := ow.len
  by_cases hit : t = i
  · subst hit
    rw [get_same]
    have := r.tmps t
    rw [ht] at this
    rw [this.rawE]
    exact freeze_rep hc hp ow.sz ow.cnt (by omega) ow.cells.symm ow.le
  · rw [get_other hit]
    exact (r.tmps i).mono hle
end
section
variable {P : Program} {st : LS} {K : LS → Prop} {ty : TypeId} {pos : String} {af : Array Edge} {g : Option (Nat × Bool)}
theorem LO.of_val0 {op : Op} (h : ∀ w0 ph a w, Rels w0 ph st a w → ∃ v w' ph' H', (execOp a.eval ⟨none, op, ty, pos, af, g⟩).run P w = .ok (.value v) w' ∧ PH.le ph ph' ∧ Inv w0 ph' w' H' ∧ K ⟨st.n, st.env, H'⟩) : LO P ⟨none, op, ty, pos, af, g⟩ st K := fun w0 ph a w rl N Q kk => by
  obtain ⟨v, w', ph', H', hrun, hle, hi, hK⟩ := h w0 ph a w rl
  unfold owp
  rw [hrun]
  exact kk ph' _ _ _ hle (rl.put0 hle hi _) hK
/-- delete(m, a), which writes no slot -/
theorem LO.mapDelete0 {x y : Operand} {t kt kt2 et : TypeId} {m : Nat} {κ : Type} [DecidableEq κ] {key : κ → Value} {l : List (κ × LV)} {a : κ} (k : Nat) (Ko : KeyOk P kt key) (hk : st.heap[k]? = some (.map m (mp key l))) (ht : P.underlying t = some (.map kt et)) (hx : Is (ev st.env x) (.raw (.map (some m)))) (hy : Is (ev st.env y) (.raw (key a)))
    (h : K ⟨st.n, st.env, .map m (mp key (delM l a)) :: st.heap.eraseIdx k⟩) : LO P ⟨none, .call { callee := .builtin .delete, args := #[x, y], argTypes := #[t, kt2] }, ty, pos, af, g⟩ st K := .of_val0 fun w0 ph ac w r => by
  have h1 := (hx _ _ (r.tmps.eval x)).rawE
  have h2 := (hy _ _ (r.tmps.eval y)).rawE
  have hinv := r.inv.front k
  unfold L.front at hinv
  rw [hk] at hinv
  obtain ⟨F, hF, ents, clock, hh, hsz, hreps, hpw⟩ := hinv.atom
  have hkeys := map_keys hsz hreps
  have hf := Ko.find a ents.toList l w hkeys
  have hlen : ents.size = l.length := by rw [hsz, List.length_map]
  have hlt := lt_of_some hh
  cases hi : idxM l a with
  | none =>
    rw [hi] at hf
    simp only [Option.bind_none] at hf
    have hset : delM l a = l := by unfold delM; rw [hi]
    refine ⟨.tuple #[], w.putObj m (.map ents clock), ph, _, ?_, PH.le.refl _, hinv.turn (a' := .map m (mp key (delM l a))) (PH.le.refl _) (fun G hG hn => ⟨Chg.put _ (fun o => (hG.1 m o).2 rfl), G, ⟨hG.1, _, _, World.putObj_heap_same hlt, by rw [hset]; exact hsz, by rw [hset]; exact hreps, hpw⟩, fun b o hb => .inl hb, fun p u hp => .inl hp⟩), h⟩
    simp [execOp, resolve, invoke, builtin, h1, h2, Builtin.delete_, run_underlying ht, MapKept.run_getObj_map hh, Ko.check, hf, MapKept.run_setObj_map _ hh, World.putObj]
  | some i =>
    rw [hi] at hf
    obtain ⟨u, hu⟩ := idxM_some hi
    have hil := (List.getElem?_eq_some_iff.1 hu).1
    have hie : i < ents.size := by omega
    simp only [Option.bind_some, Array.getElem?_toList, Array.getElem?_eq_getElem hie, Option.map_some] at hf
    have hset : delM l a = l.eraseIdx i := by unfold delM; rw [hi]
    have het : (ents.eraseIdxIfInBounds i).toList = ents.toList.eraseIdx i := by simp [Array.eraseIdxIfInBounds, hie]
    refine ⟨.tuple #[], w.putObj m (.map (ents.eraseIdxIfInBounds i) clock), ph, _, ?_, PH.le.refl _, hinv.turn (a' := .map m (mp key (delM l a))) (PH.le.refl _) (fun G hG hn => ⟨Chg.put _ (fun o => (hG.1 m o).2 rfl), G, ⟨hG.1, _, _, World.putObj_heap_same hlt, ?_, fun j e kv he hkv => ?_, ?_⟩, fun b o hb => .inl hb, fun p u hp => .inl hp⟩), h⟩
    · simp [execOp, resolve, invoke, builtin, h1, h2, Builtin.delete_, run_underlying ht, MapKept.run_getObj_map hh, Ko.check, hf, MapKept.run_setObj_map _ hh, World.putObj]
    · rw [hset, ← Array.length_toList, het, List.length_map, List.length_eraseIdx_of_lt (by simpa using hie), List.length_eraseIdx_of_lt hil, Array.length_toList, hlen]
    · rw [hset] at hkv
      rw [← Array.getElem?_toList, het, List.getElem?_eraseIdx] at he
      rw [List.getElem?_map, List.getElem?_eraseIdx] at hkv
      by_cases c : j < i
      · rw [if_pos c] at he hkv
        exact hreps j e kv (by simpa using he) (by rw [List.getElem?_map]; exact hkv)
      · rw [if_neg c] at he hkv
        exact hreps (j + 1) e kv (by simpa using he) (by rw [List.getElem?_map]; exact hkv)
    · rw [het]
      exact hpw.sublist ((List.eraseIdx_sublist _ _).map _)
end
/-- A result told otherwise. -/
theorem LCalls.isR {P : Program} {f : FuncId} {args : List LV} {H : List Atom} {Q : List Atom → Prop} {v v' : LV} (hi : Is v v') (h : LCalls P f args H (fun r H' => r = v ∧ Q H')) : LCalls P f args H (fun r H' => r = v' ∧ Q H') :=
  fun R w0 ph w vs i r => (h R w0 ph w vs i r).mono fun e w' ⟨u, ph', x, H', h1, h2, h3, h4, h5, h6⟩ => by
    subst h5
    exact ⟨u, ph', v', H', h1, h2, h3, hi _ _ h4, rfl, h6⟩
/-- What is given back may be owned in another order. -/
theorem LCalls.give {P : Program} {f : FuncId} {args : List LV} {H : List Atom} {post post' : LV → List Atom → Prop} (h : LCalls P f args H post) (hg : ∀ r H', post r H' → ∃ K, HSub H' K ∧ post' r K) : LCalls P f args H post' :=
  fun R w0 ph w vs i r => (h R w0 ph w vs i r).mono fun e w' ⟨v, ph', x, H', h1, h2, h3, h4, h5⟩ => by
    obtain ⟨K, hk, hp⟩ := hg x H' h5
    exact ⟨v, ph', x, K, h1, h2, (HSub.appR R hk).app h3, h4, hp⟩
end Go.L
