/- Lines: Drop. -/
import Derived.Test.YtolpkeajokjbjaaDoorLpC
set_option linter.unusedVariables false
set_option linter.unusedSimpArgs false
namespace Go.Proofs.YtolpkeajokjbjaaDoor
open Go.RowKit Go.L Go.Lib
attribute [local irreducible] LL LW LO
def SzL (m : At) (k : Nat) : Prop := ∀ p ∈ m, p.2.next.length ≤ k ∧ p.2.prev.length ≤ k
theorem SzL.sz {m : At} {k : Nat} (h : SzL m k) : Sz m k := fun v => by
  unfold atG
  cases hq : lookA m v with
  | none => exact ⟨Nat.zero_le _, Nat.zero_le _⟩
  | some x => exact h _ (look_mem hq)
theorem mem_setA {κ α : Type} [DecidableEq κ] : ∀ {l : List (κ × α)} {a : κ} {x : α} {p : κ × α}, p ∈ setA l a x → p = (a, x) ∨ p ∈ l
  | [], a, x, p, h => .inl (List.mem_singleton.1 h)
  | q :: r, a, x, p, h => by
    rw [setA] at h
    split at h
    · rcases List.mem_cons.1 h with e | e
      · exact .inl e
      · exact .inr (List.mem_cons_of_mem _ e)
    · rcases List.mem_cons.1 h with e | e
      · exact .inr (by rw [e]; simp)
      · rcases mem_setA e with f | f
        · exact .inl f
        · exact .inr (List.mem_cons_of_mem _ f)
theorem mem_delA {κ α : Type} [DecidableEq κ] : ∀ {l : List (κ × α)} {a : κ} {p : κ × α}, p ∈ delA l a → p ∈ l
  | [], a, p, h => h
  | q :: r, a, p, h => by
    rw [delA] at h
    split at h
    · exact List.mem_cons_of_mem _ h
    · rcases List.mem_cons.1 h with e | e
      · rw [e]; simp
      · exact List.mem_cons_of_mem _ (mem_delA e)
theorem SzL.unstep {m : At} {k : Nat} (h : SzL m k) (a b : Vx) : SzL (unstepA m a b) k := by
  have h1 : SzL (unN m a b) k := by
    unfold unN
    split
    · intro p hp
      rcases mem_setA hp with e | e
      · rw [e]
        exact ⟨Nat.le_trans (List.length_eraseIdx_le _ _) (h.sz a).1, (h.sz a).2⟩
      · exact h p e
    · exact h
  show SzL (unP (unN m a b) a b) k
  unfold unP
  split
  · intro p hp
    rcases mem_setA hp with e | e
    · rw [e]
      exact ⟨(h1.sz b).1, Nat.le_trans (List.length_eraseIdx_le _ _) (h1.sz b).2⟩
    · exact h1 p e
  · exact h1
theorem SzL.del {m : At} {k : Nat} (h : SzL m k) (a : Vx) : SzL (delA m a) k := fun p hp => h p (mem_delA hp)
abbrev unstepV (g : Nat) : Value := .func (.func 41) #[.pointer (some ⟨g, 0, none⟩)] #[]
theorem unstep_fn (g ma mb : Nat) (n : Int) (m : At) (a b : Vx) (k : Nat) (hz : SzL m k) (hk : k < 900000) : FnCalls Tryd.prog (unstepV g) [.agg (vxL a), .agg (vxL b)] [gC g ma mb n, gA ma m] (fun r H' => r = .tup [] ∧ H' = [gC g ma mb n, gA ma (unstepA m a b)]) :=
  FnCalls.bound Tryd.func41 rfl rfl (unstep_calls g ma mb n m a b k hz.sz hk)
theorem chain_unstep (g ma mb : Nat) (n : Int) (m : At) (p : Pt) (k : Nat) (hz : SzL m k) (hl : p.ids.length < 400000) (hk : k < 400000) : LCalls Tryd.prog 37 [ptE p, .raw (unstepV g)] [gC g ma mb n, gA ma m] (fun r H' => r = .tup [] ∧ H' = [gC g ma mb n, gA ma (chainF unstepA m p.up p.ids p.down)] ∧ SzL (chainF unstepA m p.up p.ids p.down) k) :=
  chain_calls (fun m => [gC g ma mb n, gA ma m]) unstepA (fun i m => SzL m k) (unstepV g) p m (by omega) (fun i s a b hi hs => ⟨unstep_fn g ma mb n s a b k hs (by omega), hs.unstep a b⟩) hz
def pt0 : Pt := ⟨topV, topV, []⟩
def lkP (q : Ps) (k : Int) : Pt := (lookA q k).getD pt0
theorem pt0_is : Is (.raw z82) (ptE pt0) := by
  have h := Is.raw_agg (vs := z82.cells.toList) (fun v hv => by
    have : ∀ v ∈ z82.cells.toList, v.oneCell' = true := by decide +kernel
    exact this v hv)
  refine h.trans (Is.agg rfl fun i x y hx hy => ?_)
  have e1 : raws z82.cells.toList = (vxL topV ++ vxL topV) ++ [.raw (.slice none 0 0)] := rfl
  have e2 : ptL pt0 = (vxL topV ++ vxL topV) ++ [Vxs [] .unk] := rfl
  rw [e1] at hx
  rw [e2] at hy
  by_cases c : i < (vxL topV ++ vxL topV).length
  · rw [List.getElem?_append_left c] at hx hy
    rw [hx] at hy
    rw [Option.some.inj hy]; exact Is.rfl'
  · rw [List.getElem?_append_right (by omega)] at hx hy
    generalize i - (vxL topV ++ vxL topV).length = j at hx hy
    match j, hx, hy with
    | 0, hx, hy => cases hx; cases hy; exact (Is.nil 33).trans Is.unk
    | j + 1, hx, hy => simp at hx
theorem lkP_is (q : Ps) (k : Int) : Is ((lookM (encM ptE q) k).getD (.raw z82)) (ptE (lkP q k)) := by
  rw [look_enc]
  unfold lkP
  cases lookA q k with
  | none => exact pt0_is
  | some x => exact Is.rfl'
theorem gA_del (ma : Nat) (m : At) (a : Vx) : Atom.map ma (mp vxV (delM (encM lnE m) a)) = gA ma (delA m a) := by rw [del_enc]
theorem gP_del (mb : Nat) (q : Ps) (a : Int) : Atom.map mb (mp intK (delM (encM ptE q) a)) = gP mb (delA q a) := by rw [del_enc]
def dropP (s : At × Ps) (k : Int) : At := (lkP s.2 k).ids.foldl delA (chainF unstepA s.1 (lkP s.2 k).up (lkP s.2 k).ids (lkP s.2 k).down)
def dropK (s : At × Ps) (k : Int) : At × Ps := (dropP s k, delA s.2 k)
def cntP (m : At) (ids : List Vx) (k : Int) : Nat := ids.countP fun v => decide ((atG m v).part = k)
def badP (m : At) (ids : List Vx) (p : Int × Pt) : Bool := !decide (cntP m ids p.1 = p.2.ids.length) && ((decide (0 < cntP m ids p.1) || decide (p.2.up ∈ ids)) || decide (p.2.down ∈ ids))
def dropE (m : At) (q : Ps) (ids : List Vx) : Nat := if wrongB ids = true then 2 else if ids.any (fun v => !(lookA m v).isSome) = true then 111 else if q.any (badP m ids) = true then 130 else 0
abbrev iE (n : Int) : LV := i64 n
/-- Of how many ids each part is. -/
structure Gn (m : At) (ids : List Vx) (G : List (Int × Int)) : Prop where
  look : ∀ k, lookA G k = if cntP m ids k = 0 then none else some ((cntP m ids k : Nat) : Int)
  nd : (G.map (·.1)).Nodup
theorem Gn.nil (m : At) : Gn m [] [] := ⟨fun k => rfl, List.nodup_nil⟩
theorem cntP_snoc (m : At) (ids : List Vx) (v : Vx) (k : Int) : cntP m (ids ++ [v]) k = cntP m ids k + if (atG m v).part = k then 1 else 0 := by
  unfold cntP
  rw [List.countP_append, List.countP_singleton]
  simp
theorem Gn.add {m : At} {ids : List Vx} {G : List (Int × Int)} (h : Gn m ids G) (v : Vx) : Gn m (ids ++ [v]) (setA G (atG m v).part ((cntP m ids (atG m v).part + 1 : Nat) : Int)) := by
  refine ⟨fun k => ?_, ?_⟩
  · rw [look_setA, cntP_snoc]
    by_cases c : (atG m v).part = k
    · rw [if_pos c, if_pos c, if_neg (by omega), c]
    · rw [if_neg c, if_neg c, h.look]; rfl
  · rw [keys_set]
    split
    · exact h.nd
    · rename_i c; exact nodup_snoc.2 ⟨h.nd, c⟩
theorem Gn.get {m : At} {ids : List Vx} {G : List (Int × Int)} (h : Gn m ids G) (k : Int) : (lookM (encM iE G) k).getD (.raw (.int .i64 0)) = i64 (cntP m ids k : Nat) := by
  rw [look_enc, h.look]
  split
  · rename_i c; rw [c]; rfl
  · rfl
theorem Gn.mem {m : At} {ids : List Vx} {G : List (Int × Int)} (h : Gn m ids G) (k : Int) : k ∈ G.map (·.1) ↔ 0 < cntP m ids k := by
  rw [← look_keys, h.look]
  split
  · rename_i c; simp [c]
  · rename_i c; simp; omega
def pickI (K : List Int) (seen : List Nat) : List Int := seen.map fun i => K.getD i 0
theorem pickI_snoc {K : List Int} {seen : List Nat} {i : Nat} {a : Int} (h : K[i]? = some a) : pickI K (seen ++ [i]) = pickI K seen ++ [a] := by
  unfold pickI
  rw [List.map_append]
  simp [h]
theorem pickI_mem {K : List Int} {seen : List Nat} (hs : ∀ i ∈ seen, i < K.length) (hall : ∀ i, i < K.length → i ∈ seen) (x : Int) : x ∈ pickI K seen ↔ x ∈ K := by
  unfold pickI
  rw [List.mem_map]
  constructor
  · rintro ⟨i, hi, rfl⟩
    have := hs i hi
    rw [List.getD_eq_getElem?_getD, List.getElem?_eq_getElem this]
    exact List.getElem_mem this
  · intro hx
    obtain ⟨i, hi, rfl⟩ := List.getElem_of_mem hx
    exact ⟨i, hall i hi, by rw [List.getD_eq_getElem?_getD, List.getElem?_eq_getElem hi]; rfl⟩
theorem pickI_nodup {K : List Int} (hK : K.Nodup) : ∀ {seen : List Nat}, seen.Nodup → (∀ i ∈ seen, i < K.length) → (pickI K seen).Nodup
  | [], _, _ => List.nodup_nil
  | i :: s, hn, hs => by
    obtain ⟨h1, h2⟩ := List.nodup_cons.1 hn
    have hi := hs i (by simp)
    refine List.nodup_cons.2 ⟨fun hm => ?_, pickI_nodup hK h2 fun j hj => hs j (List.mem_cons_of_mem _ hj)⟩
    obtain ⟨j, hj, e⟩ := List.mem_map.1 hm
    have e : K.getD j 0 = K.getD i 0 := e
    have hjl := hs j (List.mem_cons_of_mem _ hj)
    rw [List.getD_eq_getElem?_getD, List.getElem?_eq_getElem hjl, List.getD_eq_getElem?_getD, List.getElem?_eq_getElem hi] at e
    have : j = i := (List.getElem_inj hK).1 e
    exact h1 (this ▸ hj)
theorem cntP_le (m : At) (ids : List Vx) (k : Int) : cntP m ids k ≤ ids.length := List.countP_le_length
theorem foldl_snoc {α β : Type} (f : β → α → β) (b : β) (l : List α) (a : α) : (l ++ [a]).foldl f b = f (l.foldl f b) a := by rw [List.foldl_append]; rfl
end Go.Proofs.YtolpkeajokjbjaaDoor
