/- Hashes in order: slices.SortFunc of them. -/
import Derived.Test.YtmaeepckfbnpjaaDpA
import Derived.Test.YtmaeepckfbnpjaaLgD
set_option linter.unusedVariables false
set_option linter.unusedSimpArgs false
namespace Go.Proofs.Ytmaeepckfbnpjaa
open Go.RowKit Go.L Go.Shelf Go.Lib Go.Sort
attribute [local irreducible] LL LW LO
theorem cb_self : ∀ x : List UInt8, compareBytes x x = 0
  | [] => rfl
  | a :: x => by rw [compareBytes, if_neg (UInt8.lt_irrefl a), if_neg (UInt8.lt_irrefl a)]; exact cb_self x
theorem u8_tri (a b : UInt8) : a < b ∨ a = b ∨ b < a := by
  rcases Nat.lt_trichotomy a.toNat b.toNat with h | h | h
  · exact .inl (UInt8.lt_iff_toNat_lt.2 h)
  · exact .inr (.inl (UInt8.toNat_inj.1 h))
  · exact .inr (.inr (UInt8.lt_iff_toNat_lt.2 h))
theorem cb_eq : ∀ {x y : List UInt8}, compareBytes x y = 0 → x = y
  | [], [], _ => rfl
  | [], _ :: _, h => by simp [compareBytes] at h
  | _ :: _, [], h => by simp [compareBytes] at h
  | a :: x, b :: y, h => by
    rw [compareBytes] at h
    split at h
    · cases h
    · split at h
      · cases h
      · rename_i h1 h2
        rcases u8_tri a b with c | c | c
        · exact (h1 c).elim
        · rw [c, cb_eq h]
        · exact (h2 c).elim
theorem cb_anti : ∀ x y : List UInt8, compareBytes y x = - compareBytes x y
  | [], [] => rfl
  | [], _ :: _ => rfl
  | _ :: _, [] => rfl
  | a :: x, b :: y => by
    rw [compareBytes, compareBytes]
    rcases u8_tri a b with c | c | c
    · rw [if_neg (UInt8.lt_asymm c), if_pos c, if_pos c]; rfl
    · subst c
      rw [if_neg (UInt8.lt_irrefl a), if_neg (UInt8.lt_irrefl a), if_neg (UInt8.lt_irrefl a), if_neg (UInt8.lt_irrefl a)]
      exact cb_anti x y
    · rw [if_pos c, if_neg (UInt8.lt_asymm c), if_pos c]
theorem cb_trans : ∀ {x y z : List UInt8}, compareBytes x y < 0 → compareBytes y z < 0 → compareBytes x z < 0
  | [], [], _, h, _ => by simp [compareBytes] at h
  | [], _ :: _, [], _, h => by simp [compareBytes] at h
  | [], _ :: _, _ :: _, _, _ => by simp [compareBytes]
  | _ :: _, [], _, h, _ => by simp [compareBytes] at h
  | _ :: _, _ :: _, [], _, h => by simp [compareBytes] at h
  | a :: x, b :: y, c :: z, h, k => by
    rw [compareBytes] at h k ⊢
    rcases u8_tri a b with p | p | p
    · rcases u8_tri b c with q | q | q
      · rw [if_pos (UInt8.lt_trans p q)]; decide
      · subst q; rw [if_pos p]; decide
      · rw [if_neg (UInt8.lt_asymm q), if_pos q] at k; cases k
    · subst p
      rcases u8_tri a c with q | q | q
      · rw [if_pos q]; decide
      · subst q
        rw [if_neg (UInt8.lt_irrefl a), if_neg (UInt8.lt_irrefl a)] at h k ⊢
        exact cb_trans h k
      · rw [if_neg (UInt8.lt_asymm q), if_pos q] at k; cases k
    · rw [if_neg (UInt8.lt_asymm p), if_pos p] at h; cases h
def ltH (x y : Hs) : Bool := ltOf cmpH x y
theorem ltH_iff {x y : Hs} : ltH x y = true ↔ compareBytes x.1 y.1 < 0 := by unfold ltH ltOf; simp
theorem ltH_not {x y : Hs} : ltH x y = false ↔ 0 ≤ compareBytes x.1 y.1 := by unfold ltH ltOf; simp
theorem ltH_total {x y : Hs} (h1 : ltH x y = false) (h2 : ltH y x = false) : x = y := by
  rw [ltH_not] at h1 h2
  rw [cb_anti] at h2
  exact Subtype.ext (cb_eq (by omega))
theorem ltH_trans {x y z : Hs} (h1 : ltH x y = true) (h2 : ltH y z = true) : ltH x z = true := by
  rw [ltH_iff] at *; exact cb_trans h1 h2
theorem ltH_irrefl (x : Hs) : ltH x x = false := by rw [ltH_not, cb_self]; exact Int.le_refl 0
theorem ltH_swo : SWO (ltOf cmpH) where
  irrefl := ltH_irrefl
  trans x y z := ltH_trans
  ntrans x y z h1 h2 := by
    have h1' : ltH x y = false := h1
    have h2' : ltH y z = false := h2
    show ltH x z = false
    cases h : ltH x z with
    | false => rfl
    | true =>
      cases hyx : ltH y x with
      | true => rw [ltH_trans hyx h] at h2'; cases h2'
      | false => rw [ltH_total h1' hyx] at h; rw [h2'] at h; cases h
def sortH (l : List Hs) : List Hs := l.mergeSort fun x y => !(ltH y x)
theorem sortH_len (l : List Hs) : (sortH l).length = l.length := by unfold sortH; exact List.length_mergeSort ..
theorem sortH_perm (l : List Hs) : (sortH l).Perm l := List.mergeSort_perm ..
theorem sortH_mem {l : List Hs} {x : Hs} : x ∈ sortH l ↔ x ∈ l := (sortH_perm l).mem_iff
theorem flat_get (k : Nat) (hk : 0 < k) : ∀ (l : List (List Value)) (t : Nat), (∀ e ∈ l, e.length = k) → l.flatten[t]? = (l[t / k]?).bind fun e => e[t % k]?
  | [], t, _ => by simp
  | e :: l, t, h => by
    have he := h e (by simp)
    rw [List.flatten_cons]
    by_cases c : t < k
    · rw [List.getElem?_append_left (by omega), Nat.div_eq_of_lt c, Nat.mod_eq_of_lt c]; rfl
    · have ih := flat_get k hk l (t - k) (fun x hx => h x (List.mem_cons_of_mem _ hx))
      have e1 : t / k = (t - k) / k + 1 := by rw [Nat.div_eq_sub_div hk (by omega)]
      have e2 : t % k = (t - k) % k := Nat.mod_eq_sub_mod (by omega)
      rw [List.getElem?_append_right (by omega), he, ih, e1, e2, List.getElem?_cons_succ]
instance : Inhabited Hs := ⟨⟨List.replicate 32 0, by simp⟩⟩
theorem flatK_list (l : List Hs) : flatK encH 32 l.toArray = (l.map encH).flatten.toArray := by
  apply Array.ext_getElem?
  intro t
  rw [show (l.map encH).flatten.toArray[t]? = (l.map encH).flatten[t]? from List.getElem?_toArray, flat_get 32 (by decide) _ _ (fun e he => by obtain ⟨x, _, rfl⟩ := List.mem_map.1 he; rw [List.length_map]; exact x.2), List.getElem?_map]
  by_cases ht : t < l.length * 32
  · have h1 : t < (flatK encH 32 l.toArray).size := by rw [size_flatK]; simpa using ht
    have hq : t / 32 < l.length := by omega
    have hm : t % 32 < (encH l[t / 32]).length := by rw [List.length_map, l[t / 32].2]; omega
    have h2 := get_flatK encH 32 l.toArray t (by simpa using ht)
    rw [getElem!_pos _ t h1] at h2
    rw [Array.getElem?_eq_getElem h1, h2, List.getElem?_eq_getElem hq, getElem!_pos l.toArray (t / 32) (by simpa using hq)]
    simp only [Option.map_some, Option.bind_some, List.getElem_toArray]
    rw [List.getElem?_eq_getElem hm, getElem!_pos (encH l[t / 32]) (t % 32) hm]
  · rw [Array.getElem?_eq_none (by rw [size_flatK]; simpa using ht), List.getElem?_eq_none (by omega)]; rfl
theorem hsL_flat (l : List Hs) : (l.map encH).flatten.map LV.raw = (l.map hsL).flatten := by
  rw [List.map_flatten, List.map_map]
  congr 1
  apply List.map_congr_left
  intro x _
  show (x.1.map _).map _ = x.1.map _
  rw [List.map_map]
  rfl
theorem encH_len (l : List Hs) : (l.map encH).flatten.length = l.length * 32 := by
  induction l with
  | nil => rfl
  | cons a l ih => rw [List.map_cons, List.flatten_cons, List.length_append, ih, List.length_cons, List.length_map, a.2]; omega
set_option maxRecDepth 100000 in
theorem sort_calls (es : List Hs) (b off n c : Nat) (te : TypeId) (xs : List LV) (ow : OwnS 32 (es.map hsL) (some b) off n c xs) (hn : n < 4611686018427387904) : LCalls Try.prog 24 [ownV (some b) off n c, .raw (.func (.func 25) #[] #[])] [.cells b te xs] (fun r H' => r = .raw (.tuple #[]) ∧ ∃ xs', H' = [.cells b te xs'] ∧ OwnS 32 ((sortH es).map hsL) (some b) off n c xs') := by
  have hcnt : es.length = n := by rw [← ow.cnt, List.length_map]
  have hdl := encH_len es
  have hdl2 := encH_len (sortH es)
  rw [sortH_len] at hdl2
  have hlen := ow.len
  have hle := ow.le
  have hm : n * 32 ≤ c * 32 := Nat.mul_le_mul_right _ hle
  have hfl := hsL_flat (sortH es)
  refine (LCalls.rowG (α := Value) (enc := id) (d := (es.map encH).flatten) (d' := ((sortH es).map encH).flatten) (vs := [.slice (some ⟨b, off, none⟩) n c, .func (.func 25) #[] #[]]) (v := .tuple #[]) (off := off) (xs := xs) (T := te) (fun x hx => ?_) ?_ (by omega) (by omega) fun w hb hH => ?_).mono fun r H' ⟨h1, h2⟩ => ⟨h1, _, h2, ?_⟩
  · obtain ⟨l, hl, hx⟩ := List.mem_flatten.1 hx
    obtain ⟨y, _, rfl⟩ := List.mem_map.1 hl
    obtain ⟨u, _, rfl⟩ := List.mem_map.1 hx
    rfl
  · have hc := ow.cells
    rw [hdl, hcnt, hc, ← hsL_flat es]
    rfl
  · have hH' : HoldsK encH 32 w b off es.toArray := by unfold HoldsK; rw [flatK_list]; exact hH
    have eg : ∀ args w, (callFunc 25 args).run Try.prog w = .ok (.enter 25 args) w := enters_of Try.func25 (by kernel_rfl) rfl
    have hcmp : CmpLays Try.prog 25 #[] encH 32 cmpH b off es.toArray.size w := fun m os dk hs x y => hcmp_calls x.1 y.1 x.2 y.2 _
    have := AnyQ.slices_SortFunc_total Try.sortL 32 Try.isAgg34 Try.sizeOf34 encH (fun x => by rw [List.length_map]; exact x.2) (fun x v hv => by obtain ⟨u, _, rfl⟩ := List.mem_map.1 hv; rfl) cmpH ltH_swo 25 #[] b off c es.toArray w eg hcmp hH' hb (by simp; omega) (fun x y => ltH_total)
    have hsz : es.toArray.size = n := by simp [hcnt]
    rw [hsz] at this
    refine this.mono fun e w' ⟨h1, m, os, h2⟩ => ⟨h1, m, os, ?_⟩
    rw [h2]
    unfold sortWorldK putRowK
    rw [flatK_list]
    rfl
  · have hy : ∀ e ∈ (sortH es).map hsL, e.length = 32 := fun e he => by obtain ⟨x, _, rfl⟩ := List.mem_map.1 he; rw [List.length_map]; exact x.2
    have hpl : off + (((sortH es).map encH).flatten.map fun a => LV.raw (id a)).length ≤ xs.length := by rw [List.length_map]; omega
    refine ⟨by rw [List.length_map, sortH_len, hcnt], hle, by rw [putAt_length _ _ _ hpl]; exact hlen, ?_, hy, ow.nil⟩
    apply List.ext_getElem?
    intro i
    rw [List.getElem?_take, List.getElem?_drop, ← hfl]
    by_cases hi : i < n * 32
    · rw [if_pos hi, putAt_get _ _ _ hpl, if_pos (by rw [List.length_map]; omega), Nat.add_sub_cancel_left]
      rfl
    · rw [if_neg hi, List.getElem?_eq_none (by rw [List.length_map]; omega)]
end Go.Proofs.Ytmaeepckfbnpjaa
