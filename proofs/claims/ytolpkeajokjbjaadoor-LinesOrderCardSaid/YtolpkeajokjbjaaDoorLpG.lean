/- Lines: Drop, Kill, Unkill: the program keeps what the document's graph says. -/
import Derived.Test.YtolpkeajokjbjaaDoorLpF
set_option linter.unusedVariables false
set_option linter.unusedSimpArgs false
namespace Go.Proofs.YtolpkeajokjbjaaDoor
open Go.RowKit Go.L Go.Lib
attribute [local irreducible] LL LW LO
def nOf (ids : List Vx) (a : Ad) : Nat := a.ids.countP fun v => decide (v ∈ ids)
def goneB (ids : List Vx) (a : Ad) : Bool := decide (nOf ids a = a.ids.length)
def rbadB (ids : List Vx) (a : Ad) : Bool := !goneB ids a && ((decide (0 < nOf ids a) || decide (a.up ∈ ids)) || decide (a.down ∈ ids))
def rdropE (r : Rg) (ids : List Vx) : Nat := if wrongB ids = true then 2 else if ids.any (fun v => !decide (v ∈ idsG r.L)) = true then 111 else if r.L.any (rbadB ids) = true then 130 else 0
def rdropG (r : Rg) (ids : List Vx) : Rg := if rdropE r ids = 0 then ⟨r.L.filter (fun a => !goneB ids a), r.D.filter (fun d => !decide (d.v ∈ ids))⟩ else r
theorem nOf_zero {ids : List Vx} {a : Ad} : nOf ids a = 0 ↔ ∀ v ∈ a.ids, v ∉ ids := by unfold nOf; rw [List.countP_eq_zero]; simp
theorem nOf_all {ids : List Vx} {a : Ad} : nOf ids a = a.ids.length ↔ ∀ v ∈ a.ids, v ∈ ids := by unfold nOf; rw [List.countP_eq_length]; simp
section
variable {m : At} {q : Ps} {n : Int} {r : Rg} {z : Zs}
theorem cnt_same (h1 : r.L = z.map (·.2)) (hn : (z.map (·.1)).Nodup) (h5 : ∀ p ∈ z, ∀ v ∈ p.2.ids, (atG m v).part = p.1) (ho : Ok r) {ids : List Vx} (hid : ids.Nodup) (hin : ∀ v ∈ ids, v ∈ idsG r.L) {p : Int × Ad} (hp : p ∈ z) : cntP m ids p.1 = nOf ids p.2 := by
  have hpL : p.2 ∈ r.L := by rw [h1]; exact List.mem_map.2 ⟨p, hp, rfl⟩
  have e1 : cntP m ids p.1 = (ids.filter fun v => decide (v ∈ p.2.ids)).length := by
    unfold cntP
    rw [List.countP_eq_length_filter]
    congr 1
    refine List.filter_congr fun v hv => ?_
    rw [decide_eq_decide]
    constructor
    · intro e
      obtain ⟨a, ha, hva⟩ := ids_mem.1 (hin v hv)
      rw [h1] at ha
      obtain ⟨p', hp', rfl⟩ := List.mem_map.1 ha
      have := h5 p' hp' v hva
      rw [key_uniq hn hp hp' (e.symm.trans this)]
      exact hva
    · exact h5 p hp v
  rw [e1]
  unfold nOf
  rw [List.countP_eq_length_filter]
  refine (perm_same (List.filter_sublist.nodup hid) (List.filter_sublist.nodup (ho.idsOf hpL)) fun x => ?_).length_eq
  rw [List.mem_filter, List.mem_filter, decide_eq_true_eq, decide_eq_true_eq]
  exact And.comm
theorem Rel.dropE (h : Rel m q n r) (ho : Ok r) (ids : List Vx) : dropE m q ids = rdropE r ids := by
  obtain ⟨z, z1, z2, z3, z4, z5⟩ := h.parts
  unfold Go.Proofs.YtolpkeajokjbjaaDoor.dropE rdropE
  by_cases c : wrongB ids = true
  · rw [if_pos c, if_pos c]
  · rw [if_neg c, if_neg c]
    have hw : wrongB ids = false := by
      cases hq : wrongB ids with
      | false => rfl
      | true => exact absurd hq c
    obtain ⟨hid, hen, _⟩ := wrongB_false hw
    have ha : (ids.any fun v => !(lookA m v).isSome) = ids.any fun v => !decide (v ∈ idsG r.L) := by
      rw [Bool.eq_iff_iff, List.any_eq_true, List.any_eq_true]
      refine exists_congr fun v => and_congr_right fun hv => ?_
      rw [h.has, hasG, hen v hv, Bool.false_or]
    rw [ha]
    by_cases d : (ids.any fun v => !decide (v ∈ idsG r.L)) = true
    · rw [if_pos d, if_pos d]
    · rw [if_neg d, if_neg d]
      have hin : ∀ v ∈ ids, v ∈ idsG r.L := fun v hv => Classical.byContradiction fun e => d (List.any_eq_true.2 ⟨v, hv, by simpa using e⟩)
      have hb : q.any (badP m ids) = r.L.any (rbadB ids) := by
        have hq2 : q.any (badP m ids) = (z.map fun p => (p.1, ptOf p.2)).any (badP m ids) := by
          rw [Bool.eq_iff_iff, List.any_eq_true, List.any_eq_true]
          exact exists_congr fun p => and_congr_left fun _ => z2.mem_iff
        rw [hq2, z1, List.any_map, List.any_map, Bool.eq_iff_iff, List.any_eq_true, List.any_eq_true]
        refine exists_congr fun p => and_congr_right fun hp => ?_
        show badP m ids (p.1, ptOf p.2) = true ↔ rbadB ids p.2 = true
        unfold badP rbadB goneB
        rw [cnt_same z1 z3 z5 ho hid hin hp]
      rw [hb]
theorem rdropE_zero {ids : List Vx} (h : rdropE r ids = 0) : ids.Nodup ∧ (∀ v ∈ ids, endsB v = false) ∧ (∀ v ∈ ids, v ∈ idsG r.L) ∧ ∀ a ∈ r.L, goneB ids a = false → (∀ v ∈ a.ids, v ∉ ids) ∧ a.up ∉ ids ∧ a.down ∉ ids := by
  unfold rdropE at h
  split at h
  · cases h
  · rename_i c1
    split at h
    · cases h
    · rename_i c2
      split at h
      · cases h
      · rename_i c3
        obtain ⟨g1, g2, g3⟩ := wrongB_false (by simpa using c1)
        refine ⟨g1, g2, fun v hv => Classical.byContradiction fun e => c2 (List.any_eq_true.2 ⟨v, hv, by simpa using e⟩), fun a ha hg => ?_⟩
        have : rbadB ids a = false := by
          cases hq : rbadB ids a with
          | false => rfl
          | true => exact absurd (List.any_eq_true.2 ⟨a, ha, hq⟩) c3
        unfold rbadB at this
        rw [hg] at this
        simp only [Bool.not_false, Bool.true_and, Bool.or_eq_false_iff, decide_eq_false_iff_not] at this
        exact ⟨nOf_zero.1 (by omega), this.1.2, this.2⟩
theorem ids_filter {ids : List Vx} : ∀ {l : List Ad}, (∀ a ∈ l, goneB ids a = false → ∀ v ∈ a.ids, v ∉ ids) → idsG (l.filter fun a => !goneB ids a) = (idsG l).filter fun v => decide (v ∉ ids)
  | [], _ => rfl
  | a :: l, h => by
    have ih := ids_filter (l := l) fun b hb => h b (List.mem_cons_of_mem _ hb)
    unfold idsG at ih ⊢
    rw [List.filter_cons, List.flatMap_cons, List.filter_append]
    cases hg : goneB ids a with
    | true =>
      have := nOf_all.1 (of_decide_eq_true hg)
      have e0 : (a.ids.filter fun v => decide (v ∉ ids)) = [] := List.filter_eq_nil_iff.2 fun v hv => by simpa using this v hv
      rw [if_neg (by simp), ih, e0, List.nil_append]
    | false =>
      rw [if_pos (by simp), List.flatMap_cons, ih]
      congr 1
      exact (List.filter_eq_self.2 fun v hv => by simpa using h a (by simp) hg v hv).symm
theorem er_sub {l k : List Ad} {D D2 : List De} (h : l.Sublist k) : (Er ⟨l, D⟩).Sublist (Er ⟨k, D2⟩) := by
  unfold Er
  refine List.Sublist.cons_cons _ ?_
  show (l.flatMap _).Sublist (k.flatMap _)
  induction h with
  | slnil => exact List.Sublist.refl _
  | cons a _ ih => rw [List.flatMap_cons]; exact ih.trans (List.sublist_append_right _ _)
  | cons_cons a _ ih => rw [List.flatMap_cons, List.flatMap_cons]; exact (List.Sublist.refl _).append ih
theorem Ok.rdrop (ho : Ok r) (ids : List Vx) : Ok (rdropG r ids) := by
  unfold rdropG
  split
  · rename_i c
    obtain ⟨h1, h2, h3, h4⟩ := rdropE_zero c
    have hids := ids_filter (l := r.L) fun a ha hg => (h4 a ha hg).1
    have hsub : (r.L.filter fun a => !goneB ids a).Sublist r.L := List.filter_sublist
    have hin : ∀ v, v ∈ idsG r.L → v ∉ ids → v ∈ idsG (r.L.filter fun a => !goneB ids a) := fun v a b => by rw [hids]; exact List.mem_filter.2 ⟨a, by simpa using b⟩
    have hE := er_sub (D := r.D.filter (fun d => !decide (d.v ∈ ids))) (D2 := r.D) hsub
    refine ⟨?_, fun v hv => ?_, fun a ha => ho.ne a (hsub.subset ha), fun a ha => ?_, fun v hr => ?_, hE.nodup ho.end_, ?_, fun d hd => ?_, List.filter_sublist.nodup ho.dn⟩
    · show (idsG (r.L.filter fun a => !goneB ids a)).Nodup
      rw [hids]; exact List.filter_sublist.nodup ho.nd
    · rw [show idsG _ = _ from hids] at hv
      exact ho.ends v (List.mem_filter.1 hv).1
    · obtain ⟨a1, a2⟩ := List.mem_filter.1 ha
      obtain ⟨b1, b2, b3⟩ := h4 a a1 (by simpa using a2)
      exact ⟨(ho.inn a a1).1.imp id fun e => hin _ e b2, (ho.inn a a1).2.imp id fun e => hin _ e b3⟩
    · exact ho.acy v (hr.mono fun x y hy => nxE_mem.2 (hE.subset (nxE_mem.1 hy)))
    · show (idsG (r.L.filter fun a => !goneB ids a)).length ≤ 512
      rw [hids]; exact Nat.le_trans (List.length_filter_le _ _) ho.len
    · obtain ⟨d1, d2⟩ := List.mem_filter.1 hd
      exact hin _ (ho.dv d d1) (by simpa using d2)
  · exact ho
theorem text_filter {ids : List Vx} : ∀ {l : List Ad} {v : Vx}, v ∉ ids → textG (l.filter fun a => !goneB ids a) v = textG l v
  | [], v, _ => rfl
  | a :: l, v, hv => by
    rw [List.filter_cons]
    cases hg : goneB ids a with
    | true =>
      have hn : v ∉ a.ids := fun c => hv (nOf_all.1 (of_decide_eq_true hg) v c)
      rw [if_neg (by simp), text_filter hv, textG, if_neg (by have := placeG_neg.2 hn; omega)]
    | false => rw [if_pos (by simp), textG, textG, text_filter hv]
theorem Rel.drop (h : Rel m q n r) (ho : Ok r) {ids : List Vx} (he : rdropE r ids = 0) {ks : List Int} (hks : ks.Nodup) (hkm : ∀ k, k ∈ ks ↔ 0 < cntP m ids k) : Rel (ks.foldl dropK (m, q)).1 (ks.foldl dropK (m, q)).2 n (rdropG r ids) := by
  obtain ⟨h1, h2, h3, h4⟩ := rdropE_zero he
  have ho2 := ho.rdrop ids
  obtain ⟨z, z1, z2, z3, z4, z5⟩ := h.parts
  have hmn : (m.map (·.1)).Nodup := h.knd ho
  have hnd : Nd m := fun v => by rw [h.next, h.prev]; exact ⟨nxE_nodup ho.end_ v, pvE_nodup ho.end_ v⟩
  have hcnt : ∀ p ∈ z, cntP m ids p.1 = nOf ids p.2 := fun p hp => cnt_same z1 z3 z5 ho h1 h3 hp
  have hzL : ∀ p ∈ z, p.2 ∈ r.L := fun p hp => by rw [z1]; exact List.mem_map.2 ⟨p, hp, rfl⟩
  have hgo : ∀ p ∈ z, (p.1 ∈ ks ↔ goneB ids p.2 = true) := fun p hp => by
    rw [hkm, hcnt p hp]
    constructor
    · intro e
      cases hg : goneB ids p.2 with
      | true => rfl
      | false => have := nOf_zero.2 (h4 p.2 (hzL p hp) hg).1; omega
    · intro e
      rw [of_decide_eq_true e]
      exact List.length_pos_iff.2 (ho.ne p.2 (hzL p hp)).1
  have hst := DSt.fold hmn hnd z3 (ks := ks) (K := []) (s := (m, q)) (DSt.nil z2) hks fun k hk => ⟨by simp, by
    have := (hkm k).1 hk
    unfold cntP at this
    obtain ⟨v, hv, e⟩ := List.countP_pos_iff.1 this
    obtain ⟨a, ha, hva⟩ := ids_mem.1 (h3 v hv)
    rw [z1] at ha
    obtain ⟨p, hp, rfl⟩ := List.mem_map.1 ha
    exact ⟨p, hp, (z5 p hp v hva).symm.trans (of_decide_eq_true e)⟩⟩
  rw [List.nil_append] at hst
  have hgI : ∀ v, v ∈ gIds z ks ↔ v ∈ ids := fun v => by
    rw [gIds_mem]
    constructor
    · rintro ⟨p, hp, a, b⟩
      exact nOf_all.1 (of_decide_eq_true ((hgo p hp).1 a)) v b
    · intro hv
      obtain ⟨a, ha, hva⟩ := ids_mem.1 (h3 v hv)
      rw [z1] at ha
      obtain ⟨p, hp, rfl⟩ := List.mem_map.1 ha
      refine ⟨p, hp, (hgo p hp).2 ?_, hva⟩
      cases hg : goneB ids p.2 with
      | true => rfl
      | false => exact absurd hv ((h4 p.2 (hzL p hp) hg).1 v hva)
  have hgE : ∀ e, e ∈ gEd z ks ↔ ∃ a ∈ r.L, goneB ids a = true ∧ e ∈ edP a.up a.ids a.down := fun e => by
    rw [gEd_mem, z1]
    constructor
    · rintro ⟨p, hp, a, b⟩; exact ⟨p.2, List.mem_map.2 ⟨p, hp, rfl⟩, (hgo p hp).1 a, b⟩
    · rintro ⟨a, ha, b, c⟩
      obtain ⟨p, hp, rfl⟩ := List.mem_map.1 ha
      exact ⟨p, hp, (hgo p hp).2 b, c⟩
  have hG : rdropG r ids = ⟨r.L.filter (fun a => !goneB ids a), r.D.filter (fun d => !decide (d.v ∈ ids))⟩ := by unfold rdropG; rw [if_pos he]
  have hids := ids_filter (l := r.L) fun a ha hg => (h4 a ha hg).1
  -- which steps stay
  have touch : ∀ {x y : Vx}, (x, y) ∈ gEd z ks → x ∈ ids ∨ y ∈ ids := fun {x y} hm => by
    obtain ⟨a, ha, hg, hxy⟩ := (hgE _).1 hm
    have hall := nOf_all.1 (of_decide_eq_true hg)
    rcases edP_fst hxy with f | f
    · subst f; exact .inr (hall y (edP_up (ho.ne a ha).1 (ho.upOf ha) hxy))
    · exact .inl (hall x f)
  have stay : ∀ {x y : Vx}, (x, y) ∈ Er (rdropG r ids) → x ∉ ids ∧ y ∉ ids := fun {x y} hm => by
    rw [hG] at hm
    rcases er_mem.1 hm with ⟨rfl, rfl⟩ | ⟨a, ha, e⟩
    · exact ⟨fun c => (endsB_iff.1 (h2 _ c)).1 rfl, fun c => (endsB_iff.1 (h2 _ c)).2 rfl⟩
    · obtain ⟨a1, a2⟩ := List.mem_filter.1 ha
      obtain ⟨b1, b2, b3⟩ := h4 a a1 (by simpa using a2)
      refine ⟨?_, ?_⟩
      · rcases edP_fst e with f | f
        · rw [f]; exact b2
        · exact b1 x f
      · rcases edP_snd e with f | f
        · exact b1 y f
        · rw [f]; exact b3
  have hEr : Er (rdropG r ids) = (Er r).filter fun e => decide (e ∉ gEd z ks) := by
    rw [hG]
    unfold Er
    rw [List.filter_cons, if_pos (by
      simp only [decide_eq_true_eq]
      intro c
      rcases touch c with e | e
      · exact (endsB_iff.1 (h2 _ e)).1 rfl
      · exact (endsB_iff.1 (h2 _ e)).2 rfl)]
    congr 1
    show (List.filter _ r.L).flatMap _ = _
    have key : ∀ l : List Ad, (∀ a ∈ l, a ∈ r.L) → ((l.filter fun a => !goneB ids a).flatMap fun a => edP a.up a.ids a.down) = (l.flatMap fun a => edP a.up a.ids a.down).filter fun e => decide (e ∉ gEd z ks) := fun l => by
      induction l with
      | nil => intro _; rfl
      | cons a l ih =>
        intro hl
        have ih := ih fun b hb => hl b (List.mem_cons_of_mem _ hb)
        have haL := hl a (by simp)
        rw [List.filter_cons, List.flatMap_cons, List.filter_append]
        cases hg : goneB ids a with
        | true =>
          have e0 : ((edP a.up a.ids a.down).filter fun e => decide (e ∉ gEd z ks)) = [] := List.filter_eq_nil_iff.2 fun e hm => by
            simp only [decide_eq_true_eq, Classical.not_not]
            exact (hgE e).2 ⟨a, haL, hg, hm⟩
          rw [if_neg (by simp), ih, e0, List.nil_append]
        | false =>
          rw [if_pos (by simp), List.flatMap_cons, ih]
          congr 1
          refine (List.filter_eq_self.2 fun e hm => ?_).symm
          obtain ⟨x, y⟩ := e
          simp only [decide_eq_true_eq]
          intro c
          obtain ⟨b1, b2, b3⟩ := h4 a haL hg
          rcases touch c with d | d
          · rcases edP_fst hm with f | f
            · rw [f] at d; exact b2 d
            · exact b1 x f d
          · rcases edP_snd hm with f | f
            · exact b1 y f d
            · rw [f] at d; exact b3 d
    exact key r.L fun a ha => ha
  have hat := hst.at_
  refine ⟨?_, fun v => ?_, fun v => ?_, fun v => ?_, fun v => ?_, z.filter (fun p => decide (p.1 ∉ ks)), ?_, hst.q, (List.filter_sublist.map _).nodup z3, fun p hp => z4 p (List.mem_filter.1 hp).1, fun p hp v hv => ?_⟩
  · rw [hst.keys, hG]
    show List.Perm _ (topV :: botV :: idsG (r.L.filter fun a => !goneB ids a))
    refine (h.keys.filter _).trans (List.Perm.of_eq ?_)
    rw [hids, List.filter_cons, if_pos, List.filter_cons, if_pos]
    · congr 2
      exact List.filter_congr fun v _ => by rw [decide_eq_decide, hgI]
    · simp only [decide_eq_true_eq, hgI]; exact fun c => (endsB_iff.1 (h2 _ c)).2 rfl
    · simp only [decide_eq_true_eq, hgI]; exact fun c => (endsB_iff.1 (h2 _ c)).1 rfl
  · rw [hat]
    by_cases c : v ∈ gIds z ks
    · rw [if_pos c, nxE_nil fun w hw => (stay hw).1 ((hgI v).1 c)]
    · rw [if_neg c]
      show (atG m v).next.filter _ = _
      rw [h.next, hEr]
      unfold nxE
      rw [List.filter_map, List.filter_filter, List.filter_filter]
      congr 1
      refine List.filter_congr fun e he => ?_
      rw [Bool.eq_iff_iff]; simp only [Bool.and_eq_true, decide_eq_true_eq, Function.comp]
      constructor
      · rintro ⟨a, b⟩; exact ⟨b, by rw [← b] at a; exact a⟩
      · rintro ⟨a, b⟩; exact ⟨by rw [← a]; exact b, a⟩
  · rw [hat]
    by_cases c : v ∈ gIds z ks
    · rw [if_pos c, pvE_nil fun w hw => (stay hw).2 ((hgI v).1 c)]
    · rw [if_neg c]
      show (atG m v).prev.filter _ = _
      rw [h.prev, hEr]
      unfold pvE
      rw [List.filter_map, List.filter_filter, List.filter_filter]
      congr 1
      refine List.filter_congr fun e he => ?_
      rw [Bool.eq_iff_iff]; simp only [Bool.and_eq_true, decide_eq_true_eq, Function.comp]
      constructor
      · rintro ⟨a, b⟩; exact ⟨b, by rw [← b] at a; exact a⟩
      · rintro ⟨a, b⟩; exact ⟨by rw [← a]; exact b, a⟩
  · rw [hat, hG]
    show _ = textG (r.L.filter fun a => !goneB ids a) v
    by_cases c : v ∈ gIds z ks
    · rw [if_pos c, text_none]
      rw [hids, List.mem_filter]
      rintro ⟨_, b⟩
      exact (of_decide_eq_true b) ((hgI v).1 c)
    · rw [if_neg c, text_filter fun d => c ((hgI v).2 d), ← h.text]
  · rw [hat, hG]
    show _ = killsOf (r.D.filter fun d => !decide (d.v ∈ ids)) v
    unfold killsOf
    rw [List.filter_filter]
    by_cases c : v ∈ gIds z ks
    · rw [if_pos c, List.filter_eq_nil_iff.2 fun d hd => ?_]
      · rfl
      · simp only [Bool.and_eq_true, decide_eq_true_eq, Bool.not_eq_true', decide_eq_false_iff_not]
        rintro ⟨a, b⟩
        exact b (a ▸ (hgI v).1 c)
    · rw [if_neg c]
      show (atG m v).kills = _
      rw [h.kills]
      unfold killsOf
      congr 1
      refine List.filter_congr fun d hd => ?_
      rw [Bool.eq_iff_iff]; simp only [Bool.and_eq_true, decide_eq_true_eq, Bool.not_eq_true', decide_eq_false_iff_not]
      constructor
      · intro e; exact ⟨e, fun f => c ((hgI v).2 (e ▸ f))⟩
      · rintro ⟨a, _⟩; exact a
  · rw [hG]
    show r.L.filter _ = _
    rw [z1, List.filter_map]
    congr 1
    refine List.filter_congr fun p hp => ?_
    have := hgo p hp
    show (!goneB ids p.2) = _
    rw [Bool.eq_iff_iff, decide_eq_true_eq, this]
    cases goneB ids p.2 <;> simp
  · obtain ⟨a, b⟩ := List.mem_filter.1 hp
    rw [hat, if_neg]
    · exact z5 p a v hv
    · rw [gIds_mem]
      rintro ⟨p', hp', hk', hv'⟩
      have e1 := z5 p a v hv
      have e2 := z5 p' hp' v hv'
      exact (of_decide_eq_true b) (by rw [← e1, e2]; exact hk')
end
end Go.Proofs.YtolpkeajokjbjaaDoor
