/- With, over what is in order. -/
import Derived.Test.YtmaeepckfbnpjaaDpP
set_option linter.unusedVariables false
set_option linter.unusedSimpArgs false
namespace Go.Proofs.Ytmaeepckfbnpjaa
open Go.RowKit Go.L Go.Lib
attribute [local irreducible] LL LW LO
theorem belowN_spec : ∀ (l : List Hs) (h : Hs), (∀ x ∈ l.take (belowN l h), ltH x h = true) ∧ (∀ y, l[belowN l h]? = some y → ltH y h = false)
  | [], h => ⟨by simp, by simp⟩
  | a :: l, h => by
    obtain ⟨i1, i2⟩ := belowN_spec l h
    rw [belowN]
    by_cases c : ltH a h = true
    · rw [if_pos c]
      refine ⟨fun x hx => ?_, fun y hy => i2 y (by simpa using hy)⟩
      rw [List.take_succ_cons] at hx
      rcases List.mem_cons.1 hx with e | e
      · rw [e]; exact c
      · exact i1 x e
    · rw [if_neg c]
      refine ⟨by simp, fun y hy => ?_⟩
      have : a = y := Option.some.inj (by simpa using hy)
      rw [← this]; simpa using c
theorem ltH_of_not {x y : Hs} (h1 : ltH x y = false) (h2 : x ≠ y) : ltH y x = true := by
  cases h : ltH y x with
  | true => rfl
  | false => exact (h2 (ltH_total h1 h)).elim
theorem ltH_asymm {x y : Hs} (h : ltH x y = true) : ltH y x = false := by
  cases h2 : ltH y x with
  | false => rfl
  | true => have := ltH_trans h h2; rw [ltH_irrefl] at this; cases this
theorem withS_sortU (l : List Hs) (h : Hs) : withS (sortU l) h = sortU (l ++ [h]) := by
  obtain ⟨L, hL⟩ : ∃ L, L = sortU l := ⟨_, rfl⟩
  have hS : L.Pairwise (fun x y => ltH y x = false) := by rw [hL]; exact sortH_sorted _
  have hN : L.Nodup := by rw [hL]; exact (sortH_perm _).nodup_iff.2 (uniq_nodup l)
  have hM : ∀ x, x ∈ L ↔ x ∈ l := fun x => by rw [hL]; exact sortU_mem
  rw [← hL]
  obtain ⟨b1, b2⟩ := belowN_spec L h
  have hmem : ∀ x, x ∈ withS L h ↔ x ∈ l ++ [h] := fun x => by
    rw [withS_mem, hM, List.mem_append, List.mem_singleton]
    exact or_comm
  unfold withS at hmem ⊢
  by_cases c : L[belowN L h]? = some h
  · rw [if_pos c] at hmem ⊢
    rw [hL]
    exact sortU_congr (fun x => by rw [← hM]; exact hmem x)
  · rw [if_neg c] at hmem ⊢
    have hD : ∀ y ∈ L.drop (belowN L h), ltH h y = true := fun y hy => by
      cases hd : L.drop (belowN L h) with
      | nil => rw [hd] at hy; cases hy
      | cons z r =>
        have hz : L[belowN L h]? = some z := by rw [← List.head?_drop, hd]; rfl
        have hzh := ltH_of_not (b2 z hz) (fun e => c (hz.trans (congrArg some e)))
        rw [hd] at hy
        rcases List.mem_cons.1 hy with e | e
        · rw [e]; exact hzh
        · have hp := hS.sublist (List.drop_sublist (belowN L h) L)
          rw [hd] at hp
          have hyz := (List.pairwise_cons.1 hp).1 y e
          cases hlt : ltH h y with
          | true => rfl
          | false => have := ltH_swo.ntrans h y z hlt hyz; have h2 : ltH h z = false := this; rw [hzh] at h2; cases h2
    have hP : (L.take (belowN L h) ++ [h] ++ L.drop (belowN L h)).Pairwise (fun x y => ltH y x = false) := by
      rw [List.pairwise_append, List.pairwise_append]
      refine ⟨⟨hS.sublist (List.take_sublist _ _), by simp, fun x hx y hy => ?_⟩, hS.sublist (List.drop_sublist _ _), fun x hx y hy => ?_⟩
      · rw [List.mem_singleton.1 hy]; exact ltH_asymm (b1 x hx)
      · have h1 := hD y hy
        rcases List.mem_append.1 hx with e | e
        · exact ltH_asymm (ltH_trans (b1 x e) h1)
        · rw [List.mem_singleton.1 e]; exact ltH_asymm h1
    have hT := hN
    rw [← List.take_append_drop (belowN L h) L, List.nodup_append] at hT
    have hU : (L.take (belowN L h) ++ [h] ++ L.drop (belowN L h)).Nodup := by
      rw [List.nodup_append, List.nodup_append]
      refine ⟨⟨hT.1, by simp, fun x hx y hy => ?_⟩, hT.2.1, fun x hx y hy => ?_⟩
      · rw [List.mem_singleton.1 hy]; rintro rfl; have := b1 x hx; rw [ltH_irrefl] at this; cases this
      · rcases List.mem_append.1 hx with e | e
        · exact hT.2.2 x e y hy
        · rw [List.mem_singleton.1 e]; rintro rfl; have := hD h hy; rw [ltH_irrefl] at this; cases this
    exact sorted_eq (same_perm hU ((sortH_perm _).nodup_iff.2 (uniq_nodup _)) (fun x => by rw [hmem]; exact sortU_mem.symm)) hP (sortH_sorted _)
end Go.Proofs.Ytmaeepckfbnpjaa
