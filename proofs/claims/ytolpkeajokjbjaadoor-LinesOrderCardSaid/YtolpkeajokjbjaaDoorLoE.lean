/- Lines: Add, Kill: the program keeps what the document's graph says. -/
import Derived.Test.YtolpkeajokjbjaaDoorLoD
set_option linter.unusedVariables false
set_option linter.unusedSimpArgs false
namespace Go.Proofs.YtolpkeajokjbjaaDoor
open Go.RowKit Go.L Go.Lib
attribute [local irreducible] LL LW LO
/-! ### where steps lead -/
theorem placeG_nn {α : Type} [DecidableEq α] {l : List α} {v : α} (h : v ∈ l) : 0 ≤ placeG l v := Int.not_lt.1 fun c => placeG_neg.1 c h
theorem nxE_edP : ∀ {ids : List Vx} {a d v : Vx}, (a :: ids).Nodup → nxE (edP a ids d) v = if 0 ≤ placeG (a :: ids) v then [(ids ++ [d]).getD (placeG (a :: ids) v).toNat topV] else []
  | [], a, d, v, _ => by
    show nxE [(a, d)] v = _
    rw [nxE_cons]
    by_cases c : a = v
    · simp [c, placeG, nxE]
    · simp [c, placeG, nxE]
  | x :: r, a, d, v, h => by
    obtain ⟨h1, h2⟩ := List.nodup_cons.1 h
    show nxE ((a, x) :: edP x r d) v = _
    rw [nxE_cons, nxE_edP h2]
    by_cases c : a = v
    · subst c
      have hp := placeG_none h1
      rw [if_pos rfl, hp, if_neg (by decide)]
      simp [placeG]
    · rw [if_neg c, List.nil_append]
      have e : placeG (a :: x :: r) v = if placeG (x :: r) v < 0 then -1 else placeG (x :: r) v + 1 := by
        rw [placeG.eq_2, if_neg c]
      rw [e]
      by_cases n : placeG (x :: r) v < 0
      · rw [if_neg (by omega), if_pos n, if_neg (by decide)]
      · rw [if_neg n, if_pos (by omega), if_pos (by omega), show (placeG (x :: r) v + 1).toNat = (placeG (x :: r) v).toNat + 1 by omega]
        rfl
theorem st_edP {a : Ad} (hne : a.ids ≠ []) (hnd : a.ids.Nodup) (hup : a.up ∉ a.ids) (v : Vx) : st1 a v ++ (st2 a v ++ st3 a v) = nxE (edP a.up a.ids a.down) v := by
  rw [nxE_edP (List.nodup_cons.2 ⟨hup, hnd⟩)]
  by_cases c : a.up = v
  · have hp := placeG_none (show v ∉ a.ids by rw [← c]; exact hup)
    have hp2 : placeG (a.up :: a.ids) v = 0 := by rw [placeG, if_pos c]
    unfold st1 st2 st3
    rw [hp, hp2, if_pos c, if_neg (by simp), if_neg (by simp), if_pos (by decide)]
    cases hq : a.ids with
    | nil => exact absurd hq hne
    | cons x y => rfl
  · have e : placeG (a.up :: a.ids) v = if placeG a.ids v < 0 then -1 else placeG a.ids v + 1 := by rw [placeG.eq_2, if_neg c]
    have hr := placeG_range a.ids v
    unfold st1 st2 st3
    rw [e, if_neg c]
    by_cases n : placeG a.ids v < 0
    · have n2 : ¬ 0 ≤ placeG a.ids v := by omega
      simp [n, n2]
    · have n2 : 0 ≤ placeG a.ids v := by omega
      rw [if_neg n, if_pos (show 0 ≤ placeG a.ids v + 1 by omega)]
      by_cases m : placeG a.ids v + 1 < a.ids.length
      · have m2 : ¬ placeG a.ids v + 1 = a.ids.length := by omega
        rw [if_pos (by simp [n2, m]), if_neg (by simp [m2])]
        simp only [List.nil_append, List.append_nil]
        rw [List.getD_eq_getElem?_getD, List.getD_eq_getElem?_getD, List.getElem?_append_left (by omega)]
      · have m2 : placeG a.ids v + 1 = a.ids.length := by omega
        rw [if_neg (by simp [m]), if_pos (by simp [n2, m2])]
        simp only [List.nil_append]
        rw [List.getD_eq_getElem?_getD, List.getElem?_append_right (by omega), m2]
        simp
theorem Ok.idsOf {r : Rg} (h : Ok r) {a : Ad} (ha : a ∈ r.L) : a.ids.Nodup := by
  have := h.nd
  obtain ⟨s, t, e⟩ := List.append_of_mem ha
  unfold idsG at this
  rw [e, List.flatMap_append, List.flatMap_cons] at this
  exact (List.nodup_append.1 (List.nodup_append.1 this).2.1).1
theorem Ok.upOf {r : Rg} (h : Ok r) {a : Ad} (ha : a ∈ r.L) : a.up ∉ a.ids := fun c => h.acy a.up ((h.chain ha).1 _ c).1
theorem Ok.steps {r : Rg} (h : Ok r) (v : Vx) : stepsG r v = nxE (Er r) v := by
  unfold stepsG Er
  rw [nxE_cons]
  have h0 : st0 v = if topV = v then [botV] else [] := by
    unfold st0
    by_cases c : v = topV
    · rw [if_pos c, if_pos c.symm]
    · rw [if_neg c, if_neg fun e => c e.symm]
  rw [h0]
  congr 1
  have key : ∀ l : List Ad, (∀ a ∈ l, a ∈ r.L) → (l.flatMap fun a => st1 a v ++ (st2 a v ++ st3 a v)) = nxE (l.flatMap fun a => edP a.up a.ids a.down) v := fun l => by
    induction l with
    | nil => intro _; rfl
    | cons a l ih =>
      intro hl
      have ha := hl a (by simp)
      rw [List.flatMap_cons, List.flatMap_cons, nxE_app, ih fun b hb => hl b (List.mem_cons_of_mem _ hb), st_edP (h.ne a ha).1 (h.idsOf ha) (h.upOf ha)]
  exact key r.L fun a ha => ha
theorem Ok.rchS {r : Rg} (h : Ok r) {a b : Vx} : Rch (stepsG r) a b ↔ Rch (nxE (Er r)) a b := Rch.congr fun v w => by rw [h.steps]
theorem hasG_iff {r : Rg} {v : Vx} : hasG r v = true ↔ v = topV ∨ v = botV ∨ v ∈ idsG r.L := by
  unfold hasG
  rw [Bool.or_eq_true, decide_eq_true_eq, endsB_true, or_assoc]
theorem Ok.ahead {r : Rg} (h : Ok r) (a b : Vx) : aheadG r a b = true ↔ Rch (nxE (Er r)) a b := by
  unfold aheadG
  rw [Bool.and_eq_true, decide_eq_true_eq, behind_mem (fun a ha => (h.ne a ha).1), h.rchS]
  refine ⟨fun e => e.2, fun e => ⟨hasG_iff.2 ?_, e⟩⟩
  rcases h.rch_first e with f | f
  · exact .inl f
  · exact .inr (.inr f)
theorem Ok.hasR {r : Rg} (h : Ok r) {a b : Vx} (hr : Rch (nxE (Er r)) a b) : hasG r a = true ∧ hasG r b = true := by
  refine ⟨hasG_iff.2 ?_, hasG_iff.2 ?_⟩
  · rcases h.rch_first hr with f | f
    · exact .inl f
    · exact .inr (.inr f)
  · rcases h.rch_last hr with f | f
    · exact .inr (.inl f)
    · exact .inr (.inr f)
/-! ### sizes -/
theorem ids_cnt : ∀ {l : List Ad}, (∀ a ∈ l, a.ids ≠ []) → l.length ≤ (idsG l).length ∧ (l.flatMap fun a => edP a.up a.ids a.down).length ≤ 2 * (idsG l).length
  | [], _ => ⟨Nat.le_refl _, Nat.le_refl _⟩
  | a :: l, h => by
    obtain ⟨h1, h2⟩ := ids_cnt (l := l) fun b hb => h b (List.mem_cons_of_mem _ hb)
    have hp := List.length_pos_iff.2 (h a (by simp))
    have he : ∀ (ids : List Vx) (u d : Vx), (edP u ids d).length = ids.length + 1 := fun ids => by
      induction ids with
      | nil => intro u d; rfl
      | cons x y ih => intro u d; show (edP x y d).length + 1 = _; rw [ih]; rfl
    unfold idsG at h1 h2 ⊢
    rw [List.flatMap_cons, List.flatMap_cons, List.length_append, List.length_append, List.length_cons, he]
    omega
theorem Ok.sizes {r : Rg} (h : Ok r) : r.L.length ≤ 512 ∧ (Er r).length ≤ 1025 := by
  have h1 := ids_cnt fun a ha => (h.ne a ha).1
  have h2 := h.len
  unfold Er
  rw [List.length_cons]
  omega
theorem Rel.sz {m : At} {q : Ps} {n : Int} {r : Rg} (h : Rel m q n r) (ho : Ok r) : Sz m 1025 := fun v => by
  rw [h.next, h.prev]
  unfold nxE pvE
  rw [List.length_map, List.length_map]
  have h1 := ho.sizes.2
  exact ⟨Nat.le_trans (List.length_filter_le _ _) h1, Nat.le_trans (List.length_filter_le _ _) h1⟩
theorem Rel.mlen {m : At} {q : Ps} {n : Int} {r : Rg} (h : Rel m q n r) : m.length = (idsG r.L).length + 2 := by
  have := h.keys.length_eq
  rw [List.length_map] at this
  exact this
theorem mem_look {κ α : Type} [DecidableEq κ] : ∀ {m : List (κ × α)} {v : κ} {x : α}, (m.map (·.1)).Nodup → (v, x) ∈ m → lookA m v = some x
  | p :: r, v, x, hn, h => by
    rw [List.map_cons, List.nodup_cons] at hn
    rw [lookA]
    rcases List.mem_cons.1 h with e | e
    · rw [← e, if_pos rfl]
    · rw [if_neg (fun c => hn.1 (by rw [c]; exact List.mem_map.2 ⟨_, e, rfl⟩)), mem_look hn.2 e]
theorem Ok.keysNd {r : Rg} (h : Ok r) : (topV :: botV :: idsG r.L).Nodup := by
  rw [List.nodup_cons, List.nodup_cons, List.mem_cons, not_or]
  exact ⟨⟨top_bot, h.top⟩, h.bot, h.nd⟩
theorem Rel.knd {m : At} {q : Ps} {n : Int} {r : Rg} (h : Rel m q n r) (ho : Ok r) : (m.map (·.1)).Nodup := h.keys.nodup_iff.2 ho.keysNd
theorem Rel.alln {m : At} {q : Ps} {n : Int} {r : Rg} (h : Rel m q n r) (ho : Ok r) : (allN m).length < 900000 := by
  have hz := h.sz ho
  have hl := h.mlen
  have h5 := ho.len
  have key : ∀ l : At, (∀ p ∈ l, p.2.next.length ≤ 1025) → (l.flatMap fun p => p.2.next).length ≤ 1025 * l.length := fun l => by
    induction l with
    | nil => intro _; simp
    | cons p l ih =>
      intro hp
      have h1 := ih fun p hq => hp p (List.mem_cons_of_mem _ hq)
      have h2 := hp p (by simp)
      rw [List.flatMap_cons, List.length_append, List.length_cons]
      omega
  have := key m fun p hp => by
    have := (hz p.1).1
    unfold atG at this
    rw [mem_look (h.knd ho) (show (p.1, p.2) ∈ m from hp)] at this
    exact this
  unfold allN
  omega
theorem Rel.nx {m : At} {q : Ps} {n : Int} {r : Rg} (h : Rel m q n r) : nx m = nxE (Er r) := funext h.next
/-! ### Add -/
def raddE (r : Rg) (up down : Vx) (ids : List Vx) (ts : List (List UInt8)) : Nat :=
  if (wrongB ids || !decide ((ts.length : Int) = ids.length)) = true then 2 else if ids.any (fun v => decide (v ∈ idsG r.L)) = true then 110 else if (!hasG r up || !hasG r down) = true then 111 else if (!aheadG r up down) = true then 112 else if 512 < (idsG r.L).length + ids.length then 3 else 0
def raddG (r : Rg) (up down : Vx) (ids : List Vx) (ts : List (List UInt8)) : Rg := if raddE r up down ids ts = 0 then ⟨r.L ++ [⟨up, down, ids, ts⟩], r.D⟩ else r
theorem wrongB_false {l : List Vx} (h : wrongB l = false) : l.Nodup ∧ (∀ v ∈ l, endsB v = false) ∧ l ≠ [] := by
  unfold wrongB at h
  simp only [Bool.or_eq_false_iff, Bool.not_eq_false', decide_eq_true_eq, decide_eq_false_iff_not, List.any_eq_false, Bool.not_eq_true] at h
  exact ⟨h.1.1, h.1.2, fun e => h.2 (by rw [e]; rfl)⟩
theorem Rel.addE {m : At} {q : Ps} {n : Int} {r : Rg} (h : Rel m q n r) (up down : Vx) (ids : List Vx) (ts : List (List UInt8)) : addE m up down ids ts (aheadG r up down) = raddE r up down ids ts := by
  unfold Go.Proofs.YtolpkeajokjbjaaDoor.addE raddE
  by_cases c : (wrongB ids || !decide ((ts.length : Int) = ids.length)) = true
  · rw [if_pos c, if_pos c]
  · rw [if_neg c, if_neg c, h.has, h.has, h.mlen]
    have hw : wrongB ids = false := by
      cases hq : wrongB ids with
      | false => rfl
      | true => rw [hq] at c; simp at c
    have hen := (wrongB_false hw).2.1
    have ha : (ids.any fun v => (lookA m v).isSome) = ids.any fun v => decide (v ∈ idsG r.L) := by
      rw [Bool.eq_iff_iff, List.any_eq_true, List.any_eq_true]
      refine exists_congr fun v => and_congr_right fun hv => ?_
      rw [h.has, hasG, hen v hv, Bool.false_or]
    rw [ha]
    have : (512 < (((idsG r.L).length + 2 : Nat) : Int) - 2 + ids.length) ↔ 512 < (idsG r.L).length + ids.length := by omega
    simp only [this]
theorem raddE_zero {r : Rg} {up down : Vx} {ids : List Vx} {ts : List (List UInt8)} (h : raddE r up down ids ts = 0) : wrongB ids = false ∧ ts.length = ids.length ∧ (∀ v ∈ ids, v ∉ idsG r.L) ∧ hasG r up = true ∧ hasG r down = true ∧ aheadG r up down = true ∧ (idsG r.L).length + ids.length ≤ 512 := by
  unfold raddE at h
  split at h
  · cases h
  · rename_i c1
    split at h
    · cases h
    · rename_i c2
      split at h
      · cases h
      · rename_i c3
        split at h
        · cases h
        · rename_i c4
          split at h
          · cases h
          · rename_i c5
            simp only [Bool.or_eq_true, not_or, Bool.not_eq_true, Bool.not_eq_false', decide_eq_true_eq, List.any_eq_true, not_exists, not_and, Bool.not_eq_true'] at c1 c2 c3 c4
            exact ⟨c1.1, by have := c1.2; simp at this; omega, fun v hv => c2 v hv, by simpa using c3.1, by simpa using c3.2, by simpa using c4, by omega⟩
theorem Ok.radd {r : Rg} (h : Ok r) (up down : Vx) (ids : List Vx) (ts : List (List UInt8)) : Ok (raddG r up down ids ts) := by
  unfold raddG
  split
  · rename_i c
    obtain ⟨h1, h2, h3, h4, h5, h6, h7⟩ := raddE_zero c
    obtain ⟨g1, g2, g3⟩ := wrongB_false h1
    exact h.add (a := ⟨up, down, ids, ts⟩) g3 g1 g2 h2 h3 h4 h5 ((h.ahead _ _).1 h6) h7
  · exact h
theorem text_snoc : ∀ (l : List Ad) (a : Ad) (v : Vx), textG (l ++ [a]) v = if v ∈ idsG l then textG l v else if 0 ≤ placeG a.ids v then a.texts.getD (placeG a.ids v).toNat [] else []
  | [], a, v => by simp [textG, idsG]
  | b :: l, a, v => by
    show (if 0 ≤ placeG b.ids v then _ else textG (l ++ [a]) v) = _
    rw [text_snoc l a v]
    have hm : v ∈ idsG (b :: l) ↔ v ∈ b.ids ∨ v ∈ idsG l := by unfold idsG; rw [List.flatMap_cons, List.mem_append]
    by_cases c : v ∈ b.ids
    · have := placeG_nn c
      rw [if_pos (hm.2 (.inl c)), if_pos this, textG, if_pos this]
    · have : ¬ 0 ≤ placeG b.ids v := by have := placeG_neg.2 c; omega
      rw [if_neg this]
      by_cases d : v ∈ idsG l
      · rw [if_pos d, if_pos (hm.2 (.inr d)), textG, if_neg this]
      · rw [if_neg d, if_neg (fun e => (hm.1 e).elim c d)]
theorem text_none : ∀ {l : List Ad} {v : Vx}, v ∉ idsG l → textG l v = []
  | [], v, _ => rfl
  | a :: l, v, h => by
    have hm : v ∈ idsG (a :: l) ↔ v ∈ a.ids ∨ v ∈ idsG l := by unfold idsG; rw [List.flatMap_cons, List.mem_append]
    have h1 : v ∉ a.ids := fun c => h (hm.2 (.inl c))
    have h2 : v ∉ idsG l := fun c => h (hm.2 (.inr c))
    rw [textG, if_neg (by have := placeG_neg.2 h1; omega), text_none h2]
theorem nxE_nil {E : Ed} {v : Vx} (h : ∀ w, (v, w) ∉ E) : nxE E v = [] := List.eq_nil_iff_forall_not_mem.2 fun w hw => h w (nxE_mem.1 hw)
theorem pvE_nil {E : Ed} {v : Vx} (h : ∀ w, (w, v) ∉ E) : pvE E v = [] := List.eq_nil_iff_forall_not_mem.2 fun w hw => h w (pvE_mem.1 hw)
theorem Rel.add {m : At} {q : Ps} {n : Int} {r : Rg} (h : Rel m q n r) (ho : Ok r) (hn0 : 0 ≤ n) {up down : Vx} {ids : List Vx} {ts : List (List UInt8)} (he : raddE r up down ids ts = 0) : Rel (addM m (n + 1) up down ids ts) (setA q (n + 1) ⟨up, down, ids⟩) (n + 1) (raddG r up down ids ts) := by
  obtain ⟨h1, h2, h3, h4, h5, h6, h7⟩ := raddE_zero he
  obtain ⟨g1, g2, g3⟩ := wrongB_false h1
  unfold raddG
  rw [if_pos he]
  have hfresh : ∀ v ∈ ids, v ∉ m.map (·.1) := fun v hv c => by
    have c := h.keys.mem_iff.1 c
    rw [List.mem_cons, List.mem_cons] at c
    have := endsB_iff.1 (g2 v hv)
    rcases c with e | e | e
    · exact this.1 e
    · exact this.2 e
    · exact h3 v hv e
  have hlk := lay_keys (n + 1) h2.symm g1 hfresh
  have hkeys : ∀ v, hasG r v = true → v ∈ m.map (·.1) := fun v hv => by
    rw [← look_keys, h.has]; exact hv
  have hEr : Er ⟨r.L ++ [⟨up, down, ids, ts⟩], r.D⟩ = Er r ++ edP up ids down := er_snoc r.L r.D r.D _
  have hfk : (addM m (n + 1) up down ids ts).map (·.1) = m.map (·.1) ++ ids := by
    unfold addM
    rw [chain_fold, fold_keys, hlk]
    intro e hm
    rw [hlk]
    obtain ⟨x, y⟩ := e
    constructor
    · rcases edP_fst hm with f | f
      · rw [show (x, y).1 = up from f]; exact List.mem_append_left _ (hkeys _ h4)
      · exact List.mem_append_right _ f
    · rcases edP_snd hm with f | f
      · exact List.mem_append_right _ f
      · rw [show (x, y).2 = down from f]; exact List.mem_append_left _ (hkeys _ h5)
  have hnoE : ∀ v ∈ ids, (∀ w, (v, w) ∉ Er r) ∧ ∀ w, (w, v) ∉ Er r := fun v hv => by
    have he := endsB_iff.1 (g2 v hv)
    exact ⟨fun w c => (ho.fst c).elim he.1 (h3 v hv), fun w c => (ho.snd c).elim he.2 (h3 v hv)⟩
  have hat : ∀ v, (atG (addM m (n + 1) up down ids ts) v).next = (atG (layA m (n + 1) ids ts) v).next ++ nxE (edP up ids down) v ∧ (atG (addM m (n + 1) up down ids ts) v).prev = (atG (layA m (n + 1) ids ts) v).prev ++ pvE (edP up ids down) v := fun v => by
    unfold addM
    rw [chain_fold]
    exact ⟨fold_next _ _ v, fold_prev _ _ v⟩
  have hrest : ∀ v, (atG (addM m (n + 1) up down ids ts) v).text = (atG (layA m (n + 1) ids ts) v).text ∧ (atG (addM m (n + 1) up down ids ts) v).kills = (atG (layA m (n + 1) ids ts) v).kills ∧ (atG (addM m (n + 1) up down ids ts) v).part = (atG (layA m (n + 1) ids ts) v).part := fun v => by
    unfold addM
    rw [chain_fold]
    exact fold_rest _ _ v
  have hk0 : ∀ v ∈ ids, killsOf r.D v = [] := fun v hv => by
    unfold killsOf
    rw [List.filter_eq_nil_iff.2 fun d hd => by
      have := ho.dv d hd
      simp only [decide_eq_true_eq]
      intro e
      exact h3 v hv (e ▸ this)]
    rfl
  obtain ⟨z, z1, z2, z3, z4, z5⟩ := h.parts
  refine ⟨?_, fun v => ?_, fun v => ?_, fun v => ?_, fun v => ?_, z ++ [(n + 1, ⟨up, down, ids, ts⟩)], ?_, ?_, ?_, fun p hp => ?_, fun p hp v hv => ?_⟩
  · rw [hfk]
    show List.Perm _ (topV :: botV :: idsG (r.L ++ [_]))
    rw [ids_snoc]; exact h.keys.append_right ids
  · rw [(hat v).1, hEr, nxE_app]
    by_cases c : v ∈ ids
    · rw [lay_new (n + 1) h2.symm g1 c, nxE_nil (hnoE v c).1]
    · rw [lay_old (n + 1) c, h.next]
  · rw [(hat v).2, hEr, pvE_app]
    by_cases c : v ∈ ids
    · rw [lay_new (n + 1) h2.symm g1 c, pvE_nil (hnoE v c).2]
    · rw [lay_old (n + 1) c, h.prev]
  · rw [(hrest v).1]
    show _ = textG (r.L ++ [_]) v
    rw [text_snoc]
    by_cases c : v ∈ ids
    · rw [lay_new (n + 1) h2.symm g1 c, if_neg (h3 v c), if_pos (show 0 ≤ placeG ids v from placeG_nn c)]
    · rw [lay_old (n + 1) c, h.text]
      split
      · rfl
      · rename_i d
        rw [if_neg (by have := placeG_neg.2 c; show ¬ 0 ≤ placeG ids v; omega), text_none d]
  · rw [(hrest v).2.1]
    by_cases c : v ∈ ids
    · rw [lay_new (n + 1) h2.symm g1 c, hk0 v c]
    · rw [lay_old (n + 1) c, h.kills]
  · rw [List.map_append, ← z1]; rfl
  · rw [set_new, List.map_append]
    · exact z2.append_right _
    intro c
    have c := (z2.map (·.1)).mem_iff.1 c
    rw [List.map_map] at c
    obtain ⟨p, hp, e⟩ := List.mem_map.1 c
    have := (z4 p hp).2
    have e : p.1 = n + 1 := e
    omega
  · rw [List.map_append, List.map_cons, List.map_nil]
    refine nodup_snoc.2 ⟨z3, fun c => ?_⟩
    obtain ⟨p, hp, e⟩ := List.mem_map.1 c
    have := (z4 p hp).2
    have e : p.1 = n + 1 := e
    omega
  · rcases List.mem_append.1 hp with e | e
    · have := z4 p e; omega
    · rw [List.mem_singleton.1 e]
      show 0 < n + 1 ∧ n + 1 ≤ n + 1
      omega
  · rw [(hrest v).2.2]
    rcases List.mem_append.1 hp with e | e
    · have hvm : v ∈ idsG r.L := ids_mem.2 ⟨p.2, by rw [z1]; exact List.mem_map.2 ⟨p, e, rfl⟩, hv⟩
      rw [lay_old (n + 1) fun c => h3 v c hvm, z5 p e v hv]
    · rw [List.mem_singleton.1 e] at hv ⊢
      rw [lay_new (n + 1) h2.symm g1 hv]
end Go.Proofs.YtolpkeajokjbjaaDoor
