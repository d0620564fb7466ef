/- Lines: Drop: the program keeps what the document's graph says. -/
import Derived.Test.YtolpkeajokjbjaaDoorLpE
set_option linter.unusedVariables false
set_option linter.unusedSimpArgs false
namespace Go.Proofs.YtolpkeajokjbjaaDoor
open Go.RowKit Go.L Go.Lib
attribute [local irreducible] LL LW LO
/-! ### steps taken away -/
theorem place_erase {α : Type} [DecidableEq α] : ∀ {l : List α} {b : α}, l.Nodup → 0 ≤ placeG l b → l.eraseIdx (placeG l b).toNat = l.filter fun w => decide (w ≠ b)
  | [], b, _, h => by simp [placeG] at h
  | a :: l, b, hn, h => by
    obtain ⟨h1, h2⟩ := List.nodup_cons.1 hn
    rw [placeG]
    rw [placeG] at h
    by_cases c : a = b
    · subst c
      rw [if_pos rfl, List.filter_cons, if_neg (by simp)]
      show l = _
      exact (List.filter_eq_self.2 fun x hx => by simp; intro e; exact h1 (e ▸ hx)).symm
    · rw [if_neg c] at h ⊢
      by_cases d : placeG l b < 0
      · rw [if_pos d] at h; omega
      · rw [if_neg d] at h ⊢
        rw [show (placeG l b + 1).toNat = (placeG l b).toNat + 1 by omega, List.eraseIdx_cons_succ, place_erase h2 (by omega), List.filter_cons, if_pos (by simpa using c)]
theorem unN_at (m : At) (a b v : Vx) (hn : (atG m a).next.Nodup) : atG (unN m a b) v = { atG m v with next := (atG m v).next.filter fun w => decide ((v, w) ≠ (a, b)) } := by
  have keep : v ≠ a → ((atG m v).next.filter fun w => decide ((v, w) ≠ (a, b))) = (atG m v).next := fun c => List.filter_eq_self.2 fun x hx => by simp [c]
  unfold unN
  by_cases h : 0 ≤ placeG (atG m a).next b
  · rw [if_pos h, atG_set]
    by_cases c : a = v
    · subst c
      rw [if_pos rfl]
      unfold cutN
      rw [place_erase hn h]
      congr 1
      refine List.filter_congr fun x hx => ?_
      simp
    · rw [if_neg c, keep (fun e => c e.symm)]
  · rw [if_neg h]
    by_cases c : a = v
    · subst c
      have hb : b ∉ (atG m a).next := fun d => h (placeG_nn d)
      rw [List.filter_eq_self.2 fun x hx => by simp; intro e; exact hb (e ▸ hx)]
    · rw [keep (fun e => c e.symm)]
theorem unP_at (m : At) (a b v : Vx) (hn : (atG m b).prev.Nodup) : atG (unP m a b) v = { atG m v with prev := (atG m v).prev.filter fun w => decide ((w, v) ≠ (a, b)) } := by
  have keep : v ≠ b → ((atG m v).prev.filter fun w => decide ((w, v) ≠ (a, b))) = (atG m v).prev := fun c => List.filter_eq_self.2 fun x hx => by simp [c]
  unfold unP
  by_cases h : 0 ≤ placeG (atG m b).prev a
  · rw [if_pos h, atG_set]
    by_cases c : b = v
    · subst c
      rw [if_pos rfl]
      unfold cutP
      rw [place_erase hn h]
      congr 1
      refine List.filter_congr fun x hx => ?_
      simp
    · rw [if_neg c, keep (fun e => c e.symm)]
  · rw [if_neg h]
    by_cases c : b = v
    · subst c
      have hb : a ∉ (atG m b).prev := fun d => h (placeG_nn d)
      rw [List.filter_eq_self.2 fun x hx => by simp; intro e; exact hb (e ▸ hx)]
    · rw [keep (fun e => c e.symm)]
def Nd (m : At) : Prop := ∀ v, (atG m v).next.Nodup ∧ (atG m v).prev.Nodup
abbrev cutE (F : Ed) (x : Ln) (v : Vx) : Ln := { x with next := x.next.filter fun w => decide ((v, w) ∉ F), prev := x.prev.filter fun w => decide ((w, v) ∉ F) }
theorem unstep_at {m : At} (h : Nd m) (a b v : Vx) : atG (unstepA m a b) v = cutE [(a, b)] (atG m v) v := by
  unfold unstepA
  rw [unP_at _ a b v (by rw [unN_at m a b b (h a).1]; exact (h b).2), unN_at m a b v (h a).1]
  have e1 : ((atG m v).next.filter fun w => decide ((v, w) ≠ (a, b))) = (atG m v).next.filter fun w => decide ((v, w) ∉ [(a, b)]) := List.filter_congr fun x hx => by simp
  have e2 : ((atG m v).prev.filter fun w => decide ((w, v) ≠ (a, b))) = (atG m v).prev.filter fun w => decide ((w, v) ∉ [(a, b)]) := List.filter_congr fun x hx => by simp
  exact Eq.trans (b := (⟨(atG m v).text, (atG m v).kills, (atG m v).part, (atG m v).next.filter fun w => decide ((v, w) ≠ (a, b)), (atG m v).prev.filter fun w => decide ((w, v) ≠ (a, b))⟩ : Ln)) rfl (by rw [e1, e2])
theorem Nd.unstep {m : At} (h : Nd m) (a b : Vx) : Nd (unstepA m a b) := fun v => by
  rw [unstep_at h]
  exact ⟨List.filter_sublist.nodup (h v).1, List.filter_sublist.nodup (h v).2⟩
theorem cutE_nil (x : Ln) (v : Vx) : cutE [] x v = x := by
  unfold cutE
  rw [List.filter_eq_self.2 fun w _ => by simp, List.filter_eq_self.2 fun w _ => by simp]
theorem cutE_app (F1 F2 : Ed) (x : Ln) (v : Vx) : cutE F2 (cutE F1 x v) v = cutE (F1 ++ F2) x v := by
  unfold cutE
  congr 1
  · show List.filter _ (List.filter _ _) = _
    rw [List.filter_filter]
    refine List.filter_congr fun w _ => ?_
    rw [Bool.eq_iff_iff]; simp only [Bool.and_eq_true, decide_eq_true_eq, List.mem_append, not_or]
    exact And.comm
  · show List.filter _ (List.filter _ _) = _
    rw [List.filter_filter]
    refine List.filter_congr fun w _ => ?_
    rw [Bool.eq_iff_iff]; simp only [Bool.and_eq_true, decide_eq_true_eq, List.mem_append, not_or]
    exact And.comm
theorem unfold_at : ∀ {F : Ed} {m : At}, Nd m → ∀ v, atG (F.foldl (fun s e => unstepA s e.1 e.2) m) v = cutE F (atG m v) v
  | [], m, h, v => (cutE_nil _ _).symm
  | (a, b) :: F, m, h, v => by
    show atG (F.foldl _ (unstepA m a b)) v = _
    rw [unfold_at (h.unstep a b), unstep_at h, cutE_app]
    rfl
theorem atG_none {m : At} {v : Vx} (h : v ∉ m.map (·.1)) : atG m v = ln0 := by
  unfold atG
  cases hq : lookA m v with
  | none => rfl
  | some x => exact absurd (look_keys.1 (by rw [hq]; rfl)) h
theorem unstep_keys (m : At) (a b : Vx) : (unstepA m a b).map (·.1) = m.map (·.1) := by
  have h1 : (unN m a b).map (·.1) = m.map (·.1) := by
    unfold unN
    split
    · rename_i c
      rw [keys_set, if_pos]
      refine Classical.byContradiction fun d => ?_
      rw [atG_none d] at c
      simp [placeG] at c
    · rfl
  show (unP (unN m a b) a b).map (·.1) = _
  unfold unP
  split
  · rename_i c
    rw [keys_set, if_pos, h1]
    refine Classical.byContradiction fun d => ?_
    rw [atG_none d] at c
    simp [placeG] at c
  · exact h1
theorem unfold_keys : ∀ (F : Ed) (m : At), (F.foldl (fun s e => unstepA s e.1 e.2) m).map (·.1) = m.map (·.1)
  | [], m => rfl
  | (a, b) :: F, m => (unfold_keys F (unstepA m a b)).trans (unstep_keys m a b)
section
variable {κ α : Type} [DecidableEq κ]
theorem del_keys : ∀ {l : List (κ × α)} {a : κ}, (l.map (·.1)).Nodup → (delA l a).map (·.1) = (l.map (·.1)).filter fun x => decide (x ≠ a)
  | [], a, _ => rfl
  | p :: r, a, h => by
    rw [List.map_cons, List.nodup_cons] at h
    rw [delA, List.map_cons, List.filter_cons]
    by_cases c : p.1 = a
    · rw [if_pos c, if_neg (by simpa using c)]
      exact (List.filter_eq_self.2 fun x hx => by simp; intro e; exact h.1 (by rw [c, ← e]; exact hx)).symm
    · rw [if_neg c, if_pos (by simpa using c), List.map_cons, del_keys h.2]
theorem look_del : ∀ {l : List (κ × α)} {a b : κ}, (l.map (·.1)).Nodup → lookA (delA l a) b = if a = b then none else lookA l b
  | [], a, b, _ => by simp [delA, lookA]
  | p :: r, a, b, h => by
    rw [List.map_cons, List.nodup_cons] at h
    rw [delA]
    by_cases c : p.1 = a
    · rw [if_pos c]
      by_cases d : a = b
      · rw [if_pos d]
        cases hq : lookA r b with
        | none => rfl
        | some x => exact absurd (look_keys.1 (by rw [hq]; rfl)) (by rw [← d, ← c]; exact h.1)
      · rw [if_neg d, lookA, if_neg (by rw [c]; exact d)]
    · rw [if_neg c, lookA, lookA, look_del h.2]
      by_cases d : p.1 = b
      · rw [if_pos d, if_neg (fun e => c (by rw [d, e])), if_pos d]
      · rw [if_neg d, if_neg d]
theorem del_filter : ∀ {l : List (κ × α)} {a : κ}, (l.map (·.1)).Nodup → delA l a = l.filter fun p => decide (p.1 ≠ a)
  | [], a, _ => rfl
  | p :: r, a, h => by
    rw [List.map_cons, List.nodup_cons] at h
    rw [delA, List.filter_cons]
    by_cases c : p.1 = a
    · rw [if_pos c, if_neg (by simpa using c)]
      exact (List.filter_eq_self.2 fun x hx => by simp; intro e; exact h.1 (by rw [c, ← e]; exact List.mem_map.2 ⟨x, hx, rfl⟩)).symm
    · rw [if_neg c, if_pos (by simpa using c), del_filter h.2]
end
theorem dels_keys : ∀ {ids : List Vx} {m : At}, (m.map (·.1)).Nodup → (ids.foldl delA m).map (·.1) = (m.map (·.1)).filter fun x => decide (x ∉ ids)
  | [], m, h => by rw [List.filter_eq_self.2 fun x hx => by simp]; rfl
  | a :: ids, m, h => by
    show (ids.foldl delA (delA m a)).map (·.1) = _
    rw [dels_keys (by rw [del_keys h]; exact List.filter_sublist.nodup h), del_keys h, List.filter_filter]
    refine List.filter_congr fun x hx => ?_
    rw [Bool.eq_iff_iff]; simp only [Bool.and_eq_true, decide_eq_true_eq, List.mem_cons, not_or]
    exact And.comm
theorem dels_at : ∀ {ids : List Vx} {m : At}, (m.map (·.1)).Nodup → ∀ v, atG (ids.foldl delA m) v = if v ∈ ids then ln0 else atG m v
  | [], m, h, v => by simp
  | a :: ids, m, h, v => by
    show atG (ids.foldl delA (delA m a)) v = _
    rw [dels_at (by rw [del_keys h]; exact List.filter_sublist.nodup h)]
    have h1 : atG (delA m a) v = if a = v then ln0 else atG m v := by
      unfold atG
      rw [look_del h]
      split <;> rfl
    rw [h1]
    by_cases c : v ∈ ids
    · rw [if_pos c, if_pos (List.mem_cons_of_mem _ c)]
    · rw [if_neg c]
      by_cases d : a = v
      · rw [if_pos d, if_pos (by rw [d]; simp)]
      · rw [if_neg d, if_neg fun e => (List.mem_cons.1 e).elim (fun f => d f.symm) c]
/-! ### parts taken away -/
abbrev Zs := List (Int × Ad)
def gIds (z : Zs) (K : List Int) : List Vx := (z.filter fun p => decide (p.1 ∈ K)).flatMap fun p => p.2.ids
def gEd (z : Zs) (K : List Int) : Ed := (z.filter fun p => decide (p.1 ∈ K)).flatMap fun p => edP p.2.up p.2.ids p.2.down
theorem gIds_mem {z : Zs} {K : List Int} {v : Vx} : v ∈ gIds z K ↔ ∃ p ∈ z, p.1 ∈ K ∧ v ∈ p.2.ids := by
  unfold gIds
  rw [List.mem_flatMap]
  refine exists_congr fun p => ?_
  rw [List.mem_filter, decide_eq_true_eq, and_assoc]
theorem gEd_mem {z : Zs} {K : List Int} {e : Vx × Vx} : e ∈ gEd z K ↔ ∃ p ∈ z, p.1 ∈ K ∧ e ∈ edP p.2.up p.2.ids p.2.down := by
  unfold gEd
  rw [List.mem_flatMap]
  refine exists_congr fun p => ?_
  rw [List.mem_filter, decide_eq_true_eq, and_assoc]
theorem key_uniq : ∀ {z : Zs}, (z.map (·.1)).Nodup → ∀ {p p' : Int × Ad}, p ∈ z → p' ∈ z → p.1 = p'.1 → p = p'
  | [], _, p, p', h, _, _ => by cases h
  | a :: z, hn, p, p', h1, h2, e => by
    rw [List.map_cons, List.nodup_cons] at hn
    rcases List.mem_cons.1 h1 with f | f <;> rcases List.mem_cons.1 h2 with g | g
    · rw [f, g]
    · rw [f] at e; exact absurd (List.mem_map.2 ⟨p', g, e.symm⟩) hn.1
    · rw [g] at e; exact absurd (List.mem_map.2 ⟨p, f, e⟩) hn.1
    · exact key_uniq hn.2 f g e
structure DSt (m : At) (z : Zs) (K : List Int) (s : At × Ps) : Prop where
  keys : s.1.map (·.1) = (m.map (·.1)).filter fun v => decide (v ∉ gIds z K)
  at_ : ∀ v, atG s.1 v = if v ∈ gIds z K then ln0 else cutE (gEd z K) (atG m v) v
  q : s.2.Perm ((z.filter fun p => decide (p.1 ∉ K)).map fun p => (p.1, ptOf p.2))
theorem DSt.nil {m : At} {z : Zs} {q : Ps} (hq : q.Perm (z.map fun p => (p.1, ptOf p.2))) : DSt m z [] (m, q) := by
  have h1 : gIds z [] = [] := by unfold gIds; simp
  have h2 : gEd z [] = [] := by unfold gEd; simp
  refine ⟨?_, fun v => ?_, ?_⟩
  · rw [h1, List.filter_eq_self.2 fun x hx => by simp]
  · rw [h1, h2, if_neg (by simp), cutE_nil]
  · rw [List.filter_eq_self.2 fun x hx => by simp]; exact hq
theorem DSt.step {m : At} {z : Zs} {K : List Int} {s : At × Ps} (h : DSt m z K s) (hm : (m.map (·.1)).Nodup) (hd : Nd m) (hz : (z.map (·.1)).Nodup) {p : Int × Ad} (hp : p ∈ z) (hk : p.1 ∉ K) : DSt m z (K ++ [p.1]) (dropK s p.1) := by
  have hI : ∀ v, v ∈ gIds z (K ++ [p.1]) ↔ v ∈ gIds z K ∨ v ∈ p.2.ids := fun v => by
    rw [gIds_mem, gIds_mem]
    constructor
    · rintro ⟨a, ha, hb, hc⟩
      rcases List.mem_append.1 hb with e | e
      · exact .inl ⟨a, ha, e, hc⟩
      · rw [key_uniq hz ha hp (List.mem_singleton.1 e)] at hc; exact .inr hc
    · rintro (⟨a, ha, hb, hc⟩ | hc)
      · exact ⟨a, ha, List.mem_append_left _ hb, hc⟩
      · exact ⟨p, hp, by simp, hc⟩
  have hE : ∀ e, e ∈ gEd z (K ++ [p.1]) ↔ e ∈ gEd z K ++ edP p.2.up p.2.ids p.2.down := fun v => by
    rw [List.mem_append, gEd_mem, gEd_mem]
    constructor
    · rintro ⟨a, ha, hb, hc⟩
      rcases List.mem_append.1 hb with e | e
      · exact .inl ⟨a, ha, e, hc⟩
      · rw [key_uniq hz ha hp (List.mem_singleton.1 e)] at hc; exact .inr hc
    · rintro (⟨a, ha, hb, hc⟩ | hc)
      · exact ⟨a, ha, List.mem_append_left _ hb, hc⟩
      · exact ⟨p, hp, by simp, hc⟩
  have hzf : ((z.filter fun p => decide (p.1 ∉ K)).map (·.1)).Nodup := (List.filter_sublist.map _).nodup hz
  have hqn : (s.2.map (·.1)).Nodup := (h.q.map (·.1)).nodup_iff.2 (by rw [List.map_map]; exact hzf)
  have hlk : lkP s.2 p.1 = ptOf p.2 := by
    unfold lkP
    rw [mem_look hqn (h.q.mem_iff.2 (List.mem_map.2 ⟨p, List.mem_filter.2 ⟨hp, by simpa using hk⟩, rfl⟩))]; rfl
  have hsn : (s.1.map (·.1)).Nodup := by rw [h.keys]; exact List.filter_sublist.nodup hm
  have hsd : Nd s.1 := fun v => by
    rw [h.at_]
    split
    · exact ⟨List.nodup_nil, List.nodup_nil⟩
    · exact ⟨List.filter_sublist.nodup (hd v).1, List.filter_sublist.nodup (hd v).2⟩
  have hP : (dropK s p.1).1 = p.2.ids.foldl delA ((edP p.2.up p.2.ids p.2.down).foldl (fun s e => unstepA s e.1 e.2) s.1) := by
    show dropP s p.1 = _
    unfold dropP
    rw [hlk, chain_fold]
  have hkn : (((edP p.2.up p.2.ids p.2.down).foldl (fun s e => unstepA s e.1 e.2) s.1).map (·.1)).Nodup := by rw [unfold_keys]; exact hsn
  refine ⟨?_, fun v => ?_, ?_⟩
  · rw [hP, dels_keys hkn, unfold_keys, h.keys, List.filter_filter]
    refine List.filter_congr fun v hv => ?_
    rw [Bool.eq_iff_iff]; simp only [Bool.and_eq_true, decide_eq_true_eq, hI, not_or]
    exact And.comm
  · rw [hP, dels_at hkn, unfold_at hsd, h.at_]
    by_cases c : v ∈ p.2.ids
    · rw [if_pos c, if_pos ((hI v).2 (.inr c))]
    · rw [if_neg c]
      by_cases d : v ∈ gIds z K
      · rw [if_pos d, if_pos ((hI v).2 (.inl d))]; rfl
      · rw [if_neg d, if_neg (fun e => ((hI v).1 e).elim d c), cutE_app]
        unfold cutE
        congr 1
        · exact List.filter_congr fun w _ => by rw [Bool.eq_iff_iff, decide_eq_true_eq, decide_eq_true_eq, hE]
        · exact List.filter_congr fun w _ => by rw [Bool.eq_iff_iff, decide_eq_true_eq, decide_eq_true_eq, hE]
  · show List.Perm (delA s.2 p.1) _
    rw [del_filter hqn]
    refine (h.q.filter _).trans (List.Perm.of_eq ?_)
    rw [List.filter_map, List.filter_filter]
    congr 1
    refine List.filter_congr fun a ha => ?_
    rw [Bool.eq_iff_iff]; simp only [Bool.and_eq_true, decide_eq_true_eq, Function.comp, List.mem_append, List.mem_singleton, not_or]
    exact And.comm
theorem DSt.fold {m : At} {z : Zs} (hm : (m.map (·.1)).Nodup) (hd : Nd m) (hz : (z.map (·.1)).Nodup) : ∀ {ks : List Int} {K : List Int} {s : At × Ps}, DSt m z K s → ks.Nodup → (∀ k ∈ ks, k ∉ K ∧ ∃ p ∈ z, p.1 = k) → DSt m z (K ++ ks) (ks.foldl dropK s)
  | [], K, s, h, _, _ => by rw [List.append_nil]; exact h
  | k :: ks, K, s, h, hn, hk => by
    obtain ⟨h1, h2⟩ := List.nodup_cons.1 hn
    obtain ⟨hkK, p, hp, rfl⟩ := hk k (by simp)
    have := DSt.fold hm hd hz (ks := ks) (h.step hm hd hz hp hkK) h2 fun k' hk' => by
      obtain ⟨a, b⟩ := hk k' (List.mem_cons_of_mem _ hk')
      refine ⟨fun c => ?_, b⟩
      rcases List.mem_append.1 c with e | e
      · exact a e
      · exact h1 (List.mem_singleton.1 e ▸ hk')
    rw [List.append_assoc] at this
    exact this
end Go.Proofs.YtolpkeajokjbjaaDoor
