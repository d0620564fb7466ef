/- The logic's rule of a region that draws its order: quiet operations in whatever order, then others in the one order that is left. Plain theorems over any program. The logic's rules, in the forms that a printed walk uses. Plain theorems over any program. The logic's rules once more, at states that are written out. Plain theorems over any program. What comes in, by its content. Plain theorems over any program. Words of 32 bits, as natural numbers; every rule holds of any numbers. Plain theorems over any program. A literal's row of its own; []byte of a constant. Plain theorems over any program. What the program's own variables hold when a call begins; arrays that come in. Plain theorems over any program. Arrays of whole numbers compared; []byte and array facts. Plain theorems over any program. Slices whose cells are owned: made by an append, read by a call, the source of an append. Plain theorems over any program. -/
import Derived.Test.YtolpkeajokjbjaaDoorLgA
import Derived.Laws.StructEq
import Derived.Laws.Small
import Derived.SizedLaws
import Derived.ChangeSlices
import Derived.Lib.SmallJoins
import Derived.Lib.SlBytesConst
import Derived.MakeChecks
import Derived.ChangeBears2
set_option linter.unusedVariables false
set_option linter.unusedSimpArgs false
namespace Go.L
open Go.RowKit

/-- Quiet operations, one after the other. -/
inductive QC (P : Program) (ops : Array Oper) (H : List Atom) : List (Nat × LV) → List Oper → List (Nat × LV) → Prop where
  | nil (env : List (Nat × LV)) : QC P ops H env [] env
  | cons {env env' : List (Nat × LV)} {o : Oper} {l : List Oper} {v : LV} {d : Nat} (hq : LQ P ops env H o v) (hd : o.dst = some d) (h : QC P ops H ((d, v) :: env) l env') : QC P ops H env (o :: l) env'

def dstOf (ops : Array Oper) (i : Nat) : Option Nat := (ops[i]?).bind (·.dst)
def who (ops : Array Oper) (d : Nat) : Option Nat := (List.range ops.size).find? fun i => dstOf ops i == some d
def direct (ops : Array Oper) (i : Nat) : List Nat := match ops[i]? with
  | some o => (o.after.toList.filter fun e => Region.binds .any e).map (·.on)
  | none => []
/-- Every slot that an operation looks at is written by what surely comes ahead of it, or surely behind it; each is written once; the last ones (from m on) come one after the other, behind all else. -/
def drawOk (ops : Array Oper) (m : Nat) : Bool :=
  let B := Region.before ops
  let n := ops.size
  (List.range n).all fun i =>
    (Nat.ble m i || ((match dstOf ops i with | some d => who ops d == some i | none => false) &&
      (match ops[i]? with
        | some o => (o.looksAt ops).all fun t => match who ops t with
          | none => true
          | some k => k == i || (Nat.blt k i && (B.getD i 0).testBit k) || (Nat.blt i k && (B.getD k 0).testBit i)
        | none => false))) &&
    (direct ops i).all (fun j => Nat.blt j i) &&
    (List.range n).all (fun k => !(B.getD i 0).testBit k || (direct ops i).contains k || (direct ops i).any fun e => (B.getD e 0).testBit k) &&
    (Nat.blt i m || (List.range i).all fun k => (B.getD i 0).testBit k)

section
variable {P : Program} {ops : Array Oper} {H : List Atom}
def envAt (ops : Array Oper) (vs : Nat → LV) (env : List (Nat × LV)) : Nat → List (Nat × LV)
  | 0 => env
  | i + 1 => match dstOf ops i with
    | some d => (d, vs i) :: envAt ops vs env i
    | none => envAt ops vs env i
theorem QC.values : ∀ (l : List Oper) {k : Nat} {env env' : List (Nat × LV)}, QC P ops H env l env' → (∀ j, j < l.length → ops[k + j]? = l[j]?) → ∀ vs0 : Nat → LV,
    ∃ vs : Nat → LV, (∀ i, i < k → vs i = vs0 i) ∧ ∀ env0, envAt ops vs0 env0 k = env → (∀ i o, k ≤ i → i < k + l.length → ops[i]? = some o → LQ P ops (envAt ops vs env0 i) H o (vs i)) ∧ envAt ops vs env0 (k + l.length) = env'
  | [], k, env, _, .nil _, _, vs0 => ⟨vs0, fun _ _ => rfl, fun env0 h => ⟨fun i o h1 h2 => by simp at h2; omega, by simpa using h⟩⟩
  | o :: l, k, env, env', .cons (v := v) (d := d) hq hd h, hl, vs0 => by
    have hk : ops[k]? = some o := by have := hl 0 (by simp); simpa using this
    have hdk : dstOf ops k = some d := by simp [dstOf, hk, hd]
    have hcong : ∀ (f g : Nat → LV) (env0 : List (Nat × LV)) (m : Nat), (∀ i, i < m → f i = g i) → envAt ops f env0 m = envAt ops g env0 m := by
      intro f g env0 m
      induction m with
      | zero => intro _; rfl
      | succ m ih =>
        intro hfg
        simp only [envAt]
        rw [ih (fun i hi => hfg i (by omega)), hfg m (by omega)]
    obtain ⟨vs, h1, h2⟩ := QC.values l (k := k + 1) h (fun j hj => by
      have := hl (j + 1) (by simp; omega)
      rw [show k + 1 + j = k + (j + 1) by omega, this, List.getElem?_cons_succ]) (fun i => if i = k then v else vs0 i)
    refine ⟨vs, fun i hi => by rw [h1 i (by omega), if_neg (by omega)], fun env0 he => ?_⟩
    have hvk : vs k = v := by rw [h1 k (by omega), if_pos rfl]
    have hek : envAt ops vs env0 k = env := by
      rw [← he]
      exact hcong _ _ _ _ (fun i hi => by rw [h1 i (by omega), if_neg (by omega)])
    obtain ⟨h3, h4⟩ := h2 env0 (by
      simp only [envAt, hdk, if_true]
      rw [← he]
      congr 1
      exact hcong _ _ _ _ (fun i hi => by simp [show i ≠ k by omega]))
    refine ⟨fun i o' hi1 hi2 ho => ?_, by rw [← h4]; simp only [List.length_cons]; congr 1; omega⟩
    by_cases hik : i = k
    · subst hik
      rw [hk] at ho
      injection ho with ho
      subst ho
      rw [hvk, hek]
      exact hq
    · exact h3 i o' (by omega) (by simp at hi2; omega) ho
theorem get_envAt (vs : Nat → LV) (env0 : List (Nat × LV)) (m : Nat) (hw : ∀ i, i < m → ∃ d, dstOf ops i = some d ∧ who ops d = some i) (t : Nat) : ∀ k, k ≤ m → get (envAt ops vs env0 k) t = match who ops t with
    | some j => if j < k then vs j else get env0 t
    | none => get env0 t := by
  intro k
  induction k with
  | zero => intro _; simp only [envAt]; split <;> simp
  | succ k ih =>
    intro hk
    obtain ⟨d, hd, hwd⟩ := hw k (by omega)
    simp only [envAt, hd]
    by_cases hdt : d = t
    · subst hdt
      rw [get_same, hwd]
      simp
    · rw [get_other hdt, ih (by omega)]
      split
      · rename_i j hj
        by_cases hjk : j = k
        · subst hjk
          have : dstOf ops j = some t := by
            have := List.find?_some hj
            simpa using this
          rw [hd] at this
          injection this with this
          exact (hdt this).elim
        · by_cases hlt : j < k
          · rw [if_pos hlt, if_pos (by omega)]
          · rw [if_neg hlt, if_neg (by omega)]
      · rfl
def slotAt (ops : Array Oper) (vs : Nat → LV) (env0 : List (Nat × LV)) (S : Array Bool) (t : Nat) : LV := match who ops t with
  | some j => if S.getD j false = true then vs j else get env0 t
  | none => get env0 t
structure DrawOk (ops : Array Oper) (m : Nat) : Prop where
  dst : ∀ i, i < ops.size → i < m → ∃ d, dstOf ops i = some d ∧ who ops d = some i
  looks : ∀ i o, i < m → ops[i]? = some o → ∀ t ∈ o.looksAt ops, ∀ k, who ops t = some k → k = i ∨ (k < i ∧ ((Region.before ops).getD i 0).testBit k = true) ∨ (i < k ∧ ((Region.before ops).getD k 0).testBit i = true)
  less : ∀ i, i < ops.size → ∀ j ∈ direct ops i, j < i
  clo : ∀ i k, i < ops.size → k < ops.size → ((Region.before ops).getD i 0).testBit k = true → k ∈ direct ops i ∨ ∃ e ∈ direct ops i, ((Region.before ops).getD e 0).testBit k = true
  last : ∀ i k, i < ops.size → m ≤ i → k < i → ((Region.before ops).getD i 0).testBit k = true
theorem DrawOk.of {m : Nat} (h : drawOk ops m = true) : DrawOk ops m := by
  unfold drawOk at h
  simp only [List.all_eq_true, List.mem_range, Bool.and_eq_true] at h
  refine ⟨fun i hi hm => ?_, fun i o hm ho t ht k hk => ?_, fun i hi j hj => ?_, fun i k hi hk hb => ?_, fun i k hi hm hk => ?_⟩
  · obtain ⟨⟨⟨h1, _⟩, _⟩, _⟩ := h i hi
    rcases Bool.or_eq_true _ _ |>.mp h1 with h1 | h1
    · exact absurd (Nat.le_of_ble_eq_true h1) (by omega)
    · have h1 := (Bool.and_eq_true _ _ |>.mp h1).1
      cases hd : dstOf ops i with
      | none => rw [hd] at h1; cases h1
      | some d => rw [hd] at h1; exact ⟨d, rfl, by simpa using h1⟩
  · have hi : i < ops.size := (Array.getElem?_eq_some_iff.1 ho).1
    obtain ⟨⟨⟨h1, _⟩, _⟩, _⟩ := h i hi
    rcases Bool.or_eq_true _ _ |>.mp h1 with h1 | h1
    · exact absurd (Nat.le_of_ble_eq_true h1) (by omega)
    · have h1 := (Bool.and_eq_true _ _ |>.mp h1).2
      rw [ho] at h1
      have h2 := List.all_eq_true.1 h1 t ht
      rw [hk] at h2
      simp only [Bool.or_eq_true, Bool.and_eq_true, beq_iff_eq, Nat.blt_eq] at h2
      rcases h2 with (h2 | h2) | h2
      · exact .inl h2
      · exact .inr (.inl h2)
      · exact .inr (.inr h2)
  · obtain ⟨⟨⟨_, h1⟩, _⟩, _⟩ := h i hi
    simpa [Nat.blt_eq] using h1 j hj
  · obtain ⟨⟨⟨_, _⟩, h1⟩, _⟩ := h i hi
    have := h1 k hk
    simp only [Bool.or_eq_true, hb, Bool.not_true, Bool.false_eq_true, false_or, List.contains_iff_mem, List.any_eq_true] at this
    exact this
  · obtain ⟨⟨⟨_, _⟩, _⟩, h1⟩ := h i hi
    rcases Bool.or_eq_true _ _ |>.mp h1 with h1 | h1
    · have : i < m := by simpa [Nat.blt_eq] using h1
      omega
    · exact List.all_eq_true.1 h1 k (List.mem_range.2 hk)
/-- The listed ones have all that comes ahead of them. -/
def Down (ops : Array Oper) (S : Array Bool) : Prop := ∀ i, S.getD i false = true → ∀ j ∈ direct ops i, S.getD j false = true
theorem clo_down {m : Nat} (hok : DrawOk ops m) {S : Array Bool} (hd : Down ops S) : ∀ i k, i < ops.size → k < ops.size → ((Region.before ops).getD i 0).testBit k = true → (∀ j ∈ direct ops i, S.getD j false = true) → S.getD k false = true := by
  intro i
  induction i using Nat.strongRecOn with
  | _ i ih =>
    intro k hi hk hb hs
    rcases hok.clo i k hi hk hb with h | ⟨e, he, hb'⟩
    · exact hs k h
    · have hlt := hok.less i hi e he
      exact ih e hlt k (by omega) hk hb' (hd e (hs e he))
theorem ready_iff {S : Array Bool} {i : Nat} : i ∈ Region.ready .any ops S ↔ S.getD i true = false ∧ i < ops.size ∧ ∀ j ∈ direct ops i, S.getD j false = true := by
  rw [mem_ready]
  constructor
  · rintro ⟨h1, o, ho, h2⟩
    refine ⟨h1, (Array.getElem?_eq_some_iff.1 ho).1, fun j hj => ?_⟩
    simp only [direct, ho, List.mem_map, List.mem_filter] at hj
    obtain ⟨e, ⟨he, hb⟩, rfl⟩ := hj
    exact h2 e (by simpa using he) hb
  · rintro ⟨h1, hi, h2⟩
    refine ⟨h1, ops[i], Array.getElem?_eq_getElem hi, fun e he hb => h2 e.on ?_⟩
    simp only [direct, Array.getElem?_eq_getElem hi, List.mem_map, List.mem_filter]
    exact ⟨e, ⟨by simpa using he, hb⟩, rfl⟩
theorem getD_set {S : Array Bool} {i : Nat} (hi : i < S.size) (j : Nat) (b : Bool) : (S.setIfInBounds i true).getD j b = if j = i then true else S.getD j b := by
  by_cases hij : i = j
  · subst hij
    simp [hi]
  · simp [Array.getElem?_setIfInBounds_ne hij, Ne.symm hij]
def left (S : Array Bool) : List Nat → Nat
  | [] => 0
  | i :: l => (if S.getD i true = true then 0 else 1) + left S l
theorem left_le {S : Array Bool} {i : Nat} (hi : i < S.size) : ∀ l, left (S.setIfInBounds i true) l ≤ left S l
  | [] => Nat.le_refl _
  | j :: l => by
    have := left_le hi l
    simp only [left, getD_set hi]
    by_cases hj : j = i
    · simp only [hj, if_true]
      omega
    · simp only [hj, if_false]
      omega
theorem left_lt {S : Array Bool} {i : Nat} (hi : i < S.size) (hf : S.getD i true = false) : ∀ l, i ∈ l → left (S.setIfInBounds i true) l < left S l
  | [], h => by cases h
  | j :: l, h => by
    have hle := left_le hi l
    simp only [left, getD_set hi]
    by_cases hj : j = i
    · subst hj
      simp only [if_true, hf, Bool.false_eq_true, if_false]
      omega
    · have := left_lt hi hf l (by rcases List.mem_cons.1 h with h | h; exact absurd h.symm hj; exact h)
      simp only [hj, if_false]
      omega
theorem left_zero {S : Array Bool} : ∀ l, left S l = 0 → ∀ i ∈ l, S.getD i true = true
  | [], _, _, h => by cases h
  | j :: l, h, i, hi => by
    simp only [left] at h
    have h1 : S.getD j true = true := by
      by_cases hj : S.getD j true = true
      · exact hj
      · rw [if_neg hj] at h; omega
    rcases List.mem_cons.1 hi with rfl | hi
    · exact h1
    · exact left_zero l (by omega) i hi
/-- The one order that is left. -/
theorem oany_tail {m : Nat} {Q : Exit → Act → World → Prop} (hok : DrawOk ops m) : ∀ (l : List Oper) (k : Nat) (fuel : Nat) (S : Array Bool) (a : Act) (w : World), m ≤ k → k + l.length = ops.size → (∀ j, j < l.length → ops[k + j]? = l[j]?) → S.size = ops.size → (∀ j, j < ops.size → (S.getD j true = true ↔ j < k)) → l.length ≤ fuel →
    olist P ops Q l a w → oany P .any ops Q fuel S a w
  | [], k, fuel, S, a, w, hm, hk, hl, hS, hs, hf, h => by
    refine oany_done ?_ h fuel
    cases hr : Region.ready .any ops S with
    | nil => rfl
    | cons i r =>
      have : i ∈ Region.ready .any ops S := by rw [hr]; simp
      obtain ⟨h1, h2, _⟩ := ready_iff.1 this
      have := (hs i h2).2 (by simp at hk; omega)
      rw [h1] at this
      cases this
  | o :: l, k, 0, S, a, w, hm, hk, hl, hS, hs, hf, h => by simp at hf
  | o :: l, k, fuel + 1, S, a, w, hm, hk, hl, hS, hs, hf, h => by
    simp only [List.length_cons] at hk hf
    have hks : k < ops.size := by omega
    have hkk : ops[k]? = some o := by have := hl 0 (by simp); simpa using this
    have hfalse : S.getD k true = false := by
      cases hb : S.getD k true with
      | false => rfl
      | true => have := (hs k hks).1 hb; omega
    have hset : ∀ j, j < ops.size → ((S.setIfInBounds k true).getD j true = true ↔ j < k + 1) := fun j hj => by
      rw [getD_set (by omega)]
      by_cases hjk : j = k
      · simp [hjk]
      · rw [if_neg hjk, hs j hj]
        omega
    have hgd : ∀ j, j < ops.size → S.getD j false = S.getD j true := fun j hj => by
      simp [show j < S.size by omega]
    refine ⟨fun hr => ?_, fun i hi => ?_⟩
    · have : k ∈ Region.ready .any ops S := ready_iff.2 ⟨hfalse, hks, fun j hj => by
        have := hok.less k hks j hj
        rw [hgd j (by omega)]
        exact (hs j (by omega)).2 this⟩
      rw [hr] at this
      cases this
    · obtain ⟨h1, h2, h3⟩ := ready_iff.1 hi
      have hik : i = k := by
        have hge : ¬ i < k := fun hlt => by
          have := (hs i h2).2 hlt
          rw [h1] at this
          cases this
        rcases Nat.lt_or_ge k i with hlt | hle
        · have hb := hok.last i k h2 (by omega) hlt
          have hdown : Down ops S := fun x hx j hj => by
            have hxs : x < ops.size := by
              rcases Nat.lt_or_ge x ops.size with h | h
              · exact h
              · rw [show S.getD x false = false by simp [show ¬ x < S.size by omega]] at hx
                cases hx
            have hlt2 := hok.less x hxs j hj
            rw [hgd j (by omega)]
            rw [hgd x hxs] at hx
            have := (hs x hxs).1 hx
            exact (hs j (by omega)).2 (by omega)
          have := clo_down hok hdown i k h2 hks hb h3
          rw [hgd k hks, hfalse] at this
          cases this
        · omega
      subst hik
      have hrec := fun (a' : Act) (w' : World) (h' : olist P ops Q l a' w') => oany_tail hok l (i + 1) fuel (S.setIfInBounds i true) a' w' (by omega) (by omega) (fun j hj => by
        have := hl (j + 1) (by simp; omega)
        rw [show i + 1 + j = i + (j + 1) by omega, this, List.getElem?_cons_succ]) (by simp [hS]) hset (by omega) h'
      unfold olist at h
      unfold oop
      simp only [hkk]
      split
      · rename_i hw
        rw [if_pos hw] at h
        exact owp_mono (fun a' w' h' => hrec a' w' h') h
      · rename_i hw
        rw [if_neg hw] at h
        exact hrec _ _ h
/-- Quiet operations in whatever order, then the others. -/
theorem oany_quiet {m : Nat} {N : NN} {Q : Exit → Act → World → Prop} (hok : DrawOk ops m) (hm : m ≤ ops.size) {vs : Nat → LV} {env0 : List (Nat × LV)} (hN : ∀ i, i < m → ∀ d, dstOf ops i = some d → d < N.k)
    (hv : ∀ i o, i < m → ops[i]? = some o → LQ P ops (envAt ops vs env0 i) H o (vs i)) {w0 : Base} {ph : PH} (l2 : List Oper) (hl2 : m + l2.length = ops.size) (hget : ∀ j, j < l2.length → ops[m + j]? = l2[j]?)
    (hend : ∀ ph' a w, PH.le ph ph' → Rels w0 ph' ⟨N, envAt ops vs env0 m, H⟩ a w → olist P ops Q l2 a w) :
    ∀ (fuel : Nat) (S : Array Bool) (a : Act) (w : World) (ph1 : PH), S.size = ops.size → Down ops S → (∀ i, m ≤ i → i < ops.size → S.getD i true = false) → left S (List.range ops.size) ≤ fuel → PH.le ph ph1 → Inv w0 ph1 w H → (a.defers = N.df ∧ (N.top = true → w0.ro = none)) → a.tmps.size = N.k → (∀ d, Rep ph1 (a.tmps.getD d undef) (slotAt ops vs env0 S d)) →
      oany P .any ops Q fuel S a w := by
  have hdst := fun i (hi : i < m) => hok.dst i (by omega) hi
  have hgd : ∀ {S : Array Bool}, S.size = ops.size → ∀ j, j < ops.size → S.getD j false = S.getD j true := fun hS j hj => by
    simp [show j < _ from hS ▸ hj]
  have full : ∀ (fuel : Nat) (S : Array Bool) (a : Act) (w : World) (ph1 : PH), S.size = ops.size → (∀ i, m ≤ i → i < ops.size → S.getD i true = false) → (∀ i, i < m → S.getD i true = true) → l2.length ≤ fuel → PH.le ph ph1 → Inv w0 ph1 w H → (a.defers = N.df ∧ (N.top = true → w0.ro = none)) → a.tmps.size = N.k → (∀ d, Rep ph1 (a.tmps.getD d undef) (slotAt ops vs env0 S d)) → oany P .any ops Q fuel S a w := by
    intro fuel S a w ph1 hS hlate hall hf hle hinv hd hsz hrep
    refine oany_tail (P := P) hok l2 m fuel S a w (Nat.le_refl _) hl2 hget hS (fun j hj => ⟨fun h => ?_, fun h => hall j h⟩) hf (hend ph1 a w hle ⟨hinv, hd, hsz, fun d => ?_⟩)
    · rcases Nat.lt_or_ge j m with h' | h'
      · exact h'
      · rw [hlate j h' hj] at h
        cases h
    · have := hrep d
      unfold slotAt at this
      rw [get_envAt vs env0 m hdst d m (Nat.le_refl _)]
      split
      · rename_i j hj
        rw [hj] at this
        simp only at this
        by_cases hjm : j < m
        · rw [if_pos hjm]
          have hjs : S.getD j false = true := by rw [hgd hS j (by omega)]; exact hall j hjm
          rw [if_pos hjs] at this
          exact this
        · rw [if_neg hjm]
          have hjn : j < ops.size := by
            have := List.mem_of_find?_eq_some hj
            simpa using this
          have hjs : ¬ S.getD j false = true := by rw [hgd hS j hjn, hlate j (by omega) hjn]; simp
          rw [if_neg hjs] at this
          exact this
      · rename_i hj
        rw [hj] at this
        exact this
  intro fuel
  induction fuel with
  | zero =>
    intro S a w ph1 hS hdn hlate hf hle hinv hd hsz hrep
    have hz := left_zero _ (Nat.le_zero.1 hf)
    have hall : ∀ i, i < ops.size → S.getD i true = true := fun i hi => hz i (List.mem_range.2 hi)
    have hl20 : l2.length = 0 := by
      rcases Nat.eq_zero_or_pos l2.length with h | h
      · exact h
      · have h1 := hall m (by omega)
        rw [hlate m (Nat.le_refl _) (by omega)] at h1
        cases h1
    exact full 0 S a w ph1 hS hlate (fun i hi => hall i (by omega)) (by omega) hle hinv hd hsz hrep
  | succ fuel ih =>
    intro S a w ph1 hS hdn hlate hf hle hinv hd hsz hrep
    by_cases hall : ∀ i, i < m → S.getD i true = true
    · have hcount : ∀ (l : List Nat), l.Nodup → (∀ i ∈ l, i < ops.size) → (l.filter fun i => decide (m ≤ i)).length ≤ left S l := by
        intro l
        induction l with
        | nil => intro _ _; simp
        | cons i l ihl =>
          intro hnd hlt
          have := ihl (List.nodup_cons.1 hnd).2 (fun j hj => hlt j (List.mem_cons_of_mem _ hj))
          simp only [left, List.filter_cons]
          by_cases him : m ≤ i
          · have := hlate i him (hlt i (by simp))
            simp only [him, decide_true, if_true, List.length_cons, this, Bool.false_eq_true, if_false]
            omega
          · simp only [him, decide_false, Bool.false_eq_true, if_false]
            omega
      have h1 := hcount (List.range ops.size) (List.nodup_range) (fun i hi => List.mem_range.1 hi)
      have h2 : ((List.range ops.size).filter fun i => decide (m ≤ i)).length = l2.length := by
        have : ∀ (n : Nat), ((List.range n).filter fun i => decide (m ≤ i)).length = n - m := by
          intro n
          induction n with
          | zero => simp
          | succ n ihn =>
            rw [List.range_succ, List.filter_append, List.length_append, ihn]
            by_cases h : m ≤ n
            · simp [h]; omega
            · simp [h]; omega
        rw [this]
        omega
      exact full (fuel + 1) S a w ph1 hS hlate hall (by omega) hle hinv hd hsz hrep
    · have hnone : ∃ i, i < m ∧ S.getD i true = false ∧ ∀ j, j < i → S.getD j true = true := by
        have hex : ∃ i, i < m ∧ S.getD i true = false := by
          refine Classical.byContradiction fun hn => hall fun i hi => ?_
          cases hb : S.getD i true with
          | true => rfl
          | false => exact (hn ⟨i, hi, hb⟩).elim
        obtain ⟨i, ⟨hi, hb⟩, hmin⟩ := exists_least hex
        refine ⟨i, hi, hb, fun j hj => ?_⟩
        cases hb' : S.getD j true with
        | true => rfl
        | false => have := hmin j ⟨by omega, hb'⟩; omega
      obtain ⟨i0, hi0, hb0, hmin⟩ := hnone
      refine ⟨fun hr => ?_, fun i hi => ?_⟩
      · have : i0 ∈ Region.ready .any ops S := ready_iff.2 ⟨hb0, by omega, fun j hj => by
          have := hok.less i0 (by omega) j hj
          rw [hgd hS j (by omega)]
          exact hmin j this⟩
        rw [hr] at this
        cases this
      · obtain ⟨h1, h2, h3⟩ := ready_iff.1 hi
        have him : i < m := by
          rcases Nat.lt_or_ge i m with h | h
          · exact h
          · have := clo_down hok hdn i i0 h2 (by omega) (hok.last i i0 h2 h (by omega)) h3
            rw [hgd hS i0 (by omega), hb0] at this
            cases this
        obtain ⟨d, hdi, hwd⟩ := hdst i him
        have hoi : ops[i]? = some ops[i] := Array.getElem?_eq_getElem h2
        have hq := hv i ops[i] him hoi
        have hdo : (ops[i]).dst = some d := by simpa [dstOf, hoi] using hdi
        have hSi : i < S.size := by omega
        have hlooks : ∀ t ∈ (ops[i]).looksAt ops, Rep ph1 (a.tmps.getD t undef) (get (envAt ops vs env0 i) t) := fun t ht => by
          have := hrep t
          unfold slotAt at this
          rw [get_envAt vs env0 m hdst t i (by omega)]
          split
          · rename_i k hk
            rw [hk] at this
            simp only at this
            have hkn : k < ops.size := by
              have := List.mem_of_find?_eq_some hk
              simpa using this
            rcases hok.looks i ops[i] him hoi t ht k hk with rfl | ⟨hlt, hb⟩ | ⟨hlt, hb⟩
            · rw [if_neg (by omega)]
              rwa [if_neg (by rw [hgd hS k h2, h1]; simp)] at this
            · rw [if_pos hlt]
              rwa [if_pos (clo_down hok hdn i k h2 hkn hb h3)] at this
            · rw [if_neg (by omega)]
              have hkf : ¬ S.getD k false = true := fun hkt => by
                have := clo_down hok hdn k i hkn h2 hb (hdn k hkt)
                rw [hgd hS i h2, h1] at this
                cases this
              rwa [if_neg hkf] at this
          · rename_i hk
            rw [hk] at this
            exact this
        have hstep : ∀ (ph2 : PH) (u : Value) (w' : World), PH.le ph1 ph2 → Inv w0 ph2 w' H → Rep ph2 u (vs i) → oany P .any ops Q fuel (S.setIfInBounds i true) (a.put (ops[i]).dst u) w' := fun ph2 u w' hle2 hinv2 hru => by
          refine ih (S.setIfInBounds i true) _ w' ph2 (by simp [hS]) (fun x hx j hj => ?_) (fun j hj1 hj2 => ?_) ?_ (hle.trans hle2) hinv2 (by rw [put_defers]; exact hd) (by rw [put_size]; exact hsz) (fun t => ?_)
          · rw [getD_set hSi] at hx ⊢
            by_cases hji : j = i
            · rw [if_pos hji]
            · rw [if_neg hji]
              by_cases hxi : x = i
              · subst hxi
                exact h3 j hj
              · rw [if_neg hxi] at hx
                exact hdn x hx j hj
          · rw [getD_set hSi, if_neg (by omega)]
            exact hlate j hj1 hj2
          · have := left_lt hSi h1 (List.range ops.size) (List.mem_range.2 h2)
            omega
          · rw [hdo]
            unfold slotAt
            by_cases htd : d = t
            · subst htd
              rw [hwd]
              simp only [getD_set hSi, if_true]
              have : d < a.tmps.size := by rw [hsz]; exact hN i him d hdi
              simpa [Act.put, this] using hru
            · have hr' := (hrep t).mono hle2
              have hput : (a.put (some d) u).tmps.getD t undef = a.tmps.getD t undef := by
                simp [Act.put, Array.getElem?_setIfInBounds_ne htd, Array.getD_eq_getD_getElem?]
              rw [hput]
              unfold slotAt at hr'
              split
              · rename_i k hk
                rw [hk] at hr'
                simp only at hr'
                rw [getD_set hSi]
                by_cases hki : k = i
                · subst hki
                  have : dstOf ops k = some t := by
                    have := List.find?_some hk
                    simpa using this
                  rw [hdi] at this
                  injection this with this
                  exact (htd this).elim
                · rw [if_neg hki]
                  exact hr'
              · rename_i hk
                rw [hk] at hr'
                exact hr'
        have hmain := hq w0 ph1 a w hinv hlooks (oany P .any ops Q fuel (S.setIfInBounds i true)) Q (fun ph2 u w' h1 h2 h3 => hstep ph2 u w' h1 h2 h3)
        unfold oop
        simp only [hoi]
        split
        · rename_i hw
          rw [if_pos hw] at hmain
          exact hmain
        · rename_i hw
          rw [if_neg hw] at hmain
          exact hmain
/-- A region that draws its order: l1 in whatever order, then l2. -/
theorem LW.draw {id : Nat} {l l1 l2 : List Oper} {st : LS} {env' : List (Nat × LV)} {Q : Exit → LS → Prop} (hmo : P.follows .mixedOrders = true) (hl : l = l1 ++ l2) (hok : drawOk l.toArray l1.length = true) (hn : (l1.all fun o => match o.dst with | some d => Nat.blt d st.n.k | none => false) = true)
    (hc : QC P l.toArray st.heap st.env l1 env') (h : LL P l.toArray l2 ⟨st.n, env', st.heap⟩ (fun s => Q .normal s)) (hnd : noDefer l = true := by kernel_rfl) : LW P (.region id l.toArray true) st Q := fun w0 ph a w r Q' k => by
  subst hl
  have hdok := DrawOk.of hok
  obtain ⟨vs, _, hvs⟩ := hc.values l1 (k := 0) (fun j hj => by simp [List.getElem?_append_left hj]) (fun _ => .any)
  obtain ⟨hv, he⟩ := hvs st.env rfl
  rw [Nat.zero_add] at he
  refine wpIn_region_any hmo (oany_in (by simpa using hnd) _ ?_)
  have hget0 : ∀ j, (Array.replicate (l1 ++ l2).toArray.size false).getD j false = false := fun j => by
    simp [Array.getElem?_replicate]
    split <;> rfl
  refine oany_quiet (P := P) (H := st.heap) (N := st.n) (vs := vs) (env0 := st.env) (w0 := w0) (ph := ph) hdok (by simp) (fun i hi d hd => ?_) (fun i o hi ho => hv i o (Nat.zero_le _) (by omega) ho) l2 (by simp) (fun j hj => by simp [List.getElem?_append_right]) (fun ph' a' w' hle r' => ?_) _ _ a _ ph (by simp) (fun i hi => by rw [hget0] at hi; cases hi) (fun i h1 h2 => by
    have h3 : i < l1.length + l2.length := by simpa using h2
    simp [h3]) ?_ (PH.le.refl _) (r.inv.step ⟨rfl, rfl, rfl, Nat.le_refl _, fun _ _ => rfl⟩) r.defers r.size (fun d => ?_)
  · have h1 : l1[i]? = some l1[i] := List.getElem?_eq_getElem hi
    have := List.all_eq_true.1 hn l1[i] (List.getElem_mem hi)
    simp only [dstOf, List.getElem?_toArray, List.getElem?_append_left hi, h1, Option.bind_some] at hd
    rw [hd] at this
    simpa [Nat.blt_eq] using this
  · rw [he] at r'
    exact h w0 ph' a' w' r' Q' (fun ph2 st2 a2 w2 hle2 r2 q2 => k _ ph2 st2 a2 w2 (hle.trans hle2) r2 q2)
  · have : ∀ (l : List Nat) (S : Array Bool), left S l ≤ l.length := by
      intro l S
      induction l with
      | nil => exact Nat.le_refl _
      | cons i l ih =>
        simp only [left, List.length_cons]
        split <;> omega
    have := this (List.range (l1 ++ l2).toArray.size) (Array.replicate (l1 ++ l2).toArray.size false)
    simpa using this
  · have := r.tmps d
    unfold slotAt
    split
    · rw [if_neg (by rw [hget0]; simp)]
      exact this
    · exact this
end
end Go.L

set_option linter.unusedVariables false
set_option linter.unusedSimpArgs false
namespace Go.L
open Go.RowKit

theorem Is.whenN {b : Bool} {x : LV} (h : b = false) : Is (.when (!b) x) x := Is.whenE (by rw [h]; rfl)
theorem wrap_i64 {a : Int} (h0 : -9223372036854775808 ≤ a) (h1 : a < 9223372036854775808) : IntKind.i64.wrap a = a := by rw [IntKind.wrap_i64]; omega
theorem wrap_u64 {a : Int} (h0 : 0 ≤ a) (h1 : a < 18446744073709551616) : IntKind.u64.wrap a = a := by
  simp only [IntKind.wrap, IntKind.bits, IntKind.signed, Bool.false_and, Bool.false_eq_true, if_false]
  exact Int.emod_eq_of_lt h0 h1
theorem wrap_u32 {a : Int} (h0 : 0 ≤ a) (h1 : a < 4294967296) : IntKind.u32.wrap a = a := by
  simp only [IntKind.wrap, IntKind.bits, IntKind.signed, Bool.false_and, Bool.false_eq_true, if_false]
  exact Int.emod_eq_of_lt h0 h1
theorem wrap_u8 {a : Int} (h0 : 0 ≤ a) (h1 : a < 256) : IntKind.u8.wrap a = a := by
  simp only [IntKind.wrap, IntKind.bits, IntKind.signed, Bool.false_and, Bool.false_eq_true, if_false]
  exact Int.emod_eq_of_lt h0 h1
theorem ones {cs : Array Value} (h : cs.toList.all (·.oneCell') = true) : ∀ (i : Nat) (c : Value), cs[i]? = some c → c.oneCell' = true := fun i c hc => List.all_eq_true.1 h c (by simpa using Array.mem_of_getElem? hc)
theorem Part.whole {size : Nat} {cs : List LV} (h : cs.length = size) : Part size true cs 0 (.agg cs) := ⟨by omega, by rw [List.drop_zero, List.take_of_length_le (by omega)]⟩
theorem Part.sub {size off : Nat} {cs : List LV} (h : off + size ≤ cs.length) : Part size true cs off (.agg ((cs.drop off).take size)) := ⟨h, rfl⟩
theorem Part.one {size off : Nat} {cs : List LV} {v : LV} (h : cs[off]? = some v) : Part size false cs off v := h
theorem byteEls_length (l : List UInt8) : (byteEls l).length = l.length := by simp [byteEls]
theorem byteEls_append (l m : List UInt8) : byteEls (l ++ m) = byteEls l ++ byteEls m := by simp [byteEls]
theorem byteEls_at {l : List UInt8} {i : Int} (h0 : 0 ≤ i) (h : i.toNat < l.length) : (byteEls l)[i.toNat]? = some [.raw (.int .u8 (l[i.toNat].toNat))] := by simp [byteEls, h]
theorem byteEls_drop (l : List UInt8) (n : Nat) : (byteEls l).drop n = byteEls (l.drop n) := by simp [byteEls]
theorem byteEls_take (l : List UInt8) (n : Nat) : (byteEls l).take n = byteEls (l.take n) := by simp [byteEls]
/-- Whole numbers, as elements. -/
def intEls (l : List Int) : List (List LV) := l.map fun x => [.raw (.int .i64 x)]
abbrev Ints (l : List Int) (k : Cap) : LV := .sl 1 (intEls l) k
theorem intEls_length (l : List Int) : (intEls l).length = l.length := by simp [intEls]
theorem intEls_append (l m : List Int) : intEls (l ++ m) = intEls l ++ intEls m := by simp [intEls]
theorem intEls_at {l : List Int} {i : Int} (h0 : 0 ≤ i) (h : i.toNat < l.length) : (intEls l)[i.toNat]? = some [.raw (.int .i64 l[i.toNat])] := by simp [intEls, h]
theorem intEls_atN {l : List Int} {k : Nat} (h : k < l.length) : (intEls l)[((k : Nat) : Int).toNat]? = some [.raw (.int .i64 l[k])] := by simp [intEls, h]
theorem mapEls_at {α : Type} {l : List α} {f : α → List LV} {k : Nat} (h : k < l.length) : (l.map f)[((k : Nat) : Int).toNat]? = some (f l[k]) := by simp [h]
theorem intEls_drop (l : List Int) (n : Nat) : (intEls l).drop n = intEls (l.drop n) := by simp [intEls]
theorem intEls_take (l : List Int) (n : Nat) : (intEls l).take n = intEls (l.take n) := by simp [intEls]
theorem intEls_size (l : List Int) : ∀ e ∈ intEls l, e.length = 1 := fun e he => by
  obtain ⟨b, _, rfl⟩ := List.mem_map.1 he
  rfl
theorem raw_int {k : IntKind} {a b : Int} (h : a = b) : LV.raw (.int k a) = .raw (.int k b) := by rw [h]
section
variable {P : Program} {env : List (Nat × LV)} {H : List Atom} {d : Option Tmp} {ty : TypeId} {pos : String} {af : Array Edge} {g : Option (Nat × Bool)} {st : LS} {K : LS → Prop}
theorem LU.moveR {x : Operand} {v : Value} (h : Is (ev env x) (.raw v)) : LU P env H ⟨d, .move x, ty, pos, af, g⟩ (.raw v) := .move h
theorem LU.moveS {x : Operand} {s : Nat} {es : List (List LV)} {k : Cap} (h : Is (ev env x) (.sl s es k)) : LU P env H ⟨d, .move x, ty, pos, af, g⟩ (.sl s es k) := .move h
theorem LU.moveA {x : Operand} {cs : List LV} (h : Is (ev env x) (.agg cs)) : LU P env H ⟨d, .move x, ty, pos, af, g⟩ (.agg cs) := .move h
theorem LU.moveT {x : Operand} {cs : List LV} (h : Is (ev env x) (.tup cs)) : LU P env H ⟨d, .move x, ty, pos, af, g⟩ (.tup cs) := .move h
theorem LU.moveP {x : Operand} {cs : List LV} (h : Is (ev env x) (.pin cs)) : LU P env H ⟨d, .move x, ty, pos, af, g⟩ (.pin cs) := .move h
theorem LU.assignR {x : Operand} {v : Value} (h : Is (ev env x) (.raw v)) : LU P env H ⟨d, .assign x, ty, pos, af, g⟩ (.raw v) := .assign h
theorem LU.assignS {x : Operand} {s : Nat} {es : List (List LV)} {k : Cap} (h : Is (ev env x) (.sl s es k)) : LU P env H ⟨d, .assign x, ty, pos, af, g⟩ (.sl s es k) := .assign h
theorem LU.assignA {x : Operand} {cs : List LV} (h : Is (ev env x) (.agg cs)) : LU P env H ⟨d, .assign x, ty, pos, af, g⟩ (.agg cs) := .assign h
theorem LU.assignT {x : Operand} {cs : List LV} (h : Is (ev env x) (.tup cs)) : LU P env H ⟨d, .assign x, ty, pos, af, g⟩ (.tup cs) := .assign h
theorem LU.assignP {x : Operand} {cs : List LV} (h : Is (ev env x) (.pin cs)) : LU P env H ⟨d, .assign x, ty, pos, af, g⟩ (.pin cs) := .assign h
theorem LU.addN {x y : Operand} {t t' : TypeId} {k : IntKind} {a b c : Int} (hx : Is (ev env x) (.raw (.int k a))) (hy : Is (ev env y) (.raw (.int k b))) (hw : k.wrap (a + b) = c) : LU P env H ⟨d, .binOp .add t x y t', ty, pos, af, g⟩ (.raw (.int k c)) := hw ▸ .add hx hy
theorem LU.subN {x y : Operand} {t t' : TypeId} {k : IntKind} {a b c : Int} (hx : Is (ev env x) (.raw (.int k a))) (hy : Is (ev env y) (.raw (.int k b))) (hw : k.wrap (a - b) = c) : LU P env H ⟨d, .binOp .sub t x y t', ty, pos, af, g⟩ (.raw (.int k c)) := hw ▸ .sub hx hy
theorem LU.mulN {x y : Operand} {t t' : TypeId} {k : IntKind} {a b c : Int} (hx : Is (ev env x) (.raw (.int k a))) (hy : Is (ev env y) (.raw (.int k b))) (hw : k.wrap (a * b) = c) : LU P env H ⟨d, .binOp .mul t x y t', ty, pos, af, g⟩ (.raw (.int k c)) := hw ▸ .mul hx hy
theorem LU.convN {x : Operand} {s t : TypeId} {ds : TypeDesc} {k k' : IntKind} {a c : Int} (hs : P.underlying s = some ds) (ht : P.underlying t = some (.int k)) (hx : Is (ev env x) (.raw (.int k' a))) (hw : k.wrap a = c) : LU P env H ⟨d, .convert s t x, ty, pos, af, g⟩ (.raw (.int k c)) := hw ▸ .conv hs ht hx
theorem LU.lenN {x : Operand} {t e : TypeId} {size n : Nat} {es : List (List LV)} {k : Cap} (ht : P.underlying t = some (.slice e)) (hx : Is (ev env x) (.sl size es k)) (hn : es.length = n) : LU P env H ⟨d, .call { callee := .builtin .len, args := #[x], argTypes := #[t] }, ty, pos, af, g⟩ (.raw (.int .i64 n)) := hn ▸ .len ht hx
theorem LU.strlenN {x : Operand} {t : TypeId} {l : List UInt8} (ht : P.underlying t = some .string) (hx : Is (ev env x) (Str l)) : LU P env H ⟨d, .call { callee := .builtin .len, args := #[x], argTypes := #[t] }, ty, pos, af, g⟩ (.raw (.int .i64 l.length)) := by
  have := LU.strlen (P := P) (H := H) (d := d) (ty := ty) (pos := pos) (af := af) (g := g) ht hx
  simpa [ByteArray.size] using this
theorem LU.booleq {x y : Operand} {t t' : TypeId} {a b : Bool} (ht : P.underlying t = some .bool) (hx : Is (ev env x) (.raw (.bool a))) (hy : Is (ev env y) (.raw (.bool b))) : LU P env H ⟨d, .binOp .eql t x y t', ty, pos, af, g⟩ (.raw (.bool (a == b))) := .raw fun ac hl w => by
  have h1 := hl x (by simp [Op.operands]) _ hx
  have h2 := hl y (by simp [Op.operands]) _ hy
  have he : (Op.equal t (.bool a) (.bool b)).run P w = .ok (a == b) w := by
    rw [show Op.equal t (.bool a) (.bool b) = Op.equalIn (9999 + 1) t (.bool a) (.bool b) from rfl, Op.equalIn]
    rw [Sem.run_bind, run_underlying ht, Result.andThen_ok]
    rfl
  have hg : (eqGuard .eql t x y (.bool a) (.bool b)).run P w = .ok () w := by unfold eqGuard; simp
  have hb : binOp .eql t (.bool a) (.bool b) = (do pure (.bool (← Op.equal t (.bool a) (.bool b)))) := rfl
  simp only [execOp, h1, h2, Sem.run_bind, hg, Result.andThen_ok, hb, he, Sem.run_pure]
theorem LU.boolne {x y : Operand} {t t' : TypeId} {a b : Bool} (ht : P.underlying t = some .bool) (hx : Is (ev env x) (.raw (.bool a))) (hy : Is (ev env y) (.raw (.bool b))) : LU P env H ⟨d, .binOp .neq t x y t', ty, pos, af, g⟩ (.raw (.bool (!(a == b)))) := .raw fun ac hl w => by
  have h1 := hl x (by simp [Op.operands]) _ hx
  have h2 := hl y (by simp [Op.operands]) _ hy
  have he : (Op.equal t (.bool a) (.bool b)).run P w = .ok (a == b) w := by
    rw [show Op.equal t (.bool a) (.bool b) = Op.equalIn (9999 + 1) t (.bool a) (.bool b) from rfl, Op.equalIn]
    rw [Sem.run_bind, run_underlying ht, Result.andThen_ok]
    rfl
  have hg : (eqGuard .neq t x y (.bool a) (.bool b)).run P w = .ok () w := by unfold eqGuard; simp
  have hb : binOp .neq t (.bool a) (.bool b) = (do pure (.bool (!(← Op.equal t (.bool a) (.bool b))))) := rfl
  simp only [execOp, h1, h2, Sem.run_bind, hg, Result.andThen_ok, hb, he, Sem.run_pure]
/-- A slice of bytes, cut. -/
theorem LU.sliceB {x : Operand} {t e : TypeId} {l : List UInt8} {k : Cap} {lo hi : Option Operand} {i j : Option Int} {m : List UInt8} (hs : ∀ w, (sizeOf e).run P w = .ok 1 w) (ht : P.underlying t = some (.slice e)) (hx : Is (ev env x) (Bytes l k)) (hl : optInt env lo i) (hh : optInt env hi j)
    (h0 : 0 ≤ i.getD 0) (h1 : i.getD 0 ≤ j.getD l.length) (h2 : j.getD l.length ≤ l.length) (hm : (l.drop (i.getD 0).toNat).take ((j.getD l.length).toNat - (i.getD 0).toNat) = m) :
    LU P env H ⟨d, .slice t x lo hi none, ty, pos, af, g⟩ (Bytes m .unk) := by
  have := LU.slice (P := P) (H := H) (d := d) (ty := ty) (pos := pos) (af := af) (g := g) hs (by omega) ht hx hl hh h0 (by simpa [byteEls_length] using h1) (by simpa [byteEls_length] using h2) .unk (.inl rfl)
  rw [byteEls_length, byteEls_drop, byteEls_take, hm] at this
  exact this
/-- The elements of a literal, in their order. -/
def Elems (env : List (Nat × LV)) : Nat → List (Nat × Operand) → List (List LV) → Prop
  | _, [], [] => True
  | k, (i, x) :: ps, c :: es => i = k ∧ (∃ v, Is (ev env x) v ∧ Cells v c) ∧ Elems env (k + 1) ps es
  | _, _, _ => False
theorem LU.quoN {x y : Operand} {t t' : TypeId} {k : IntKind} {a b c : Int} (hx : Is (ev env x) (.raw (.int k a))) (hy : Is (ev env y) (.raw (.int k b))) (hb : b ≠ 0) (hw : k.wrap (a.tdiv b) = c) : LU P env H ⟨d, .binOp .quo t x y t', ty, pos, af, g⟩ (.raw (.int k c)) := hw ▸ .quo hx hy hb
theorem tdiv_i64 {a b : Int} (h0 : -9223372036854775808 ≤ a) (h1 : a < 9223372036854775808) (hb : 1 ≤ b) : IntKind.i64.wrap (a.tdiv b) = a.tdiv b := by
  have h2 : (a.tdiv b).natAbs ≤ a.natAbs := by rw [Int.natAbs_tdiv]; exact Nat.div_le_self _ _
  rw [IntKind.wrap_i64]
  have h3 : b = 1 ∨ 2 ≤ b := by omega
  rcases h3 with rfl | h3
  · rw [Int.tdiv_one]; omega
  · have h4 : (a.tdiv b).natAbs ≤ a.natAbs / 2 := by rw [Int.natAbs_tdiv]; exact Nat.div_le_div_left (by omega) (by omega)
    omega
/-- A call that reads what is owned. -/
theorem LU.call1 {f : FuncId} {fn : Func} {as : Array Operand} {ts : Array TypeId} {vs : List LV} {v : LV} {a : Atom} (k : Nat) (hk : H[k]? = some a) (hc : LCalls P f vs [a] (fun r H' => r = v ∧ H' = [a])) (hf : P.funcs[f]? = some fn) (hname : (fn.name == "runtime.NumGoroutine") = false) (hb : fn.body.isSome = true) (ha : Opds env as.toList vs) :
    LU P env H ⟨d, .call { callee := .value (.func f), args := as, argTypes := ts }, ty, pos, af, g⟩ v := fun w0 ph ac w hi hl N Q kk => by
  have hargs := ha.reps (a := ac) (ph := ph) (fun x hx => hl x (by simp only [Op.operands, Call.operands]; exact Array.mem_append.2 (.inr (by simpa using hx))))
  have hrun : (execOp ac.eval ⟨d, .call { callee := .value (.func f), args := as, argTypes := ts }, ty, pos, af, g⟩).run P w = .ok (.enter f (as.map ac.eval)) w := by
    simp [execOp, resolve, Deferred.ofValue, invoke, Act.eval, enters hf hname hb]
  unfold owp
  rw [hrun]
  refine upon_enter ?_
  have hfr : L.front k H = [a] ++ H.eraseIdx k := by unfold L.front; rw [hk]; rfl
  have hperm := front_perm k H
  rw [hfr] at hperm
  refine (hc (H.eraseIdx k) w0 ph w (as.map ac.eval) ((HSub.perm hperm).app hi) (by rw [map_arr ac.eval as]; exact hargs)).mono ?_
  rintro e w' ⟨u, ph', x, H', rfl, hle, hi', hx, rfl, rfl⟩
  exact kk ph' _ w' hle ((HSub.perm hperm.symm).app hi') hx
/-- The same of more things. -/
theorem LU.callP {f : FuncId} {fn : Func} {as : Array Operand} {ts : Array TypeId} {vs : List LV} {v : LV} {Hc R : List Atom} (hp : H.Perm (Hc ++ R)) (hc : LCalls P f vs Hc (fun r H' => r = v ∧ H' = Hc)) (hf : P.funcs[f]? = some fn) (hname : (fn.name == "runtime.NumGoroutine") = false) (hb : fn.body.isSome = true) (ha : Opds env as.toList vs) :
    LU P env H ⟨d, .call { callee := .value (.func f), args := as, argTypes := ts }, ty, pos, af, g⟩ v := fun w0 ph ac w hi hl N Q kk => by
  have hargs := ha.reps (a := ac) (ph := ph) (fun x hx => hl x (by simp only [Op.operands, Call.operands]; exact Array.mem_append.2 (.inr (by simpa using hx))))
  have hrun : (execOp ac.eval ⟨d, .call { callee := .value (.func f), args := as, argTypes := ts }, ty, pos, af, g⟩).run P w = .ok (.enter f (as.map ac.eval)) w := by
    simp [execOp, resolve, Deferred.ofValue, invoke, Act.eval, enters hf hname hb]
  unfold owp
  rw [hrun]
  refine upon_enter ?_
  refine (hc R w0 ph w (as.map ac.eval) ((HSub.perm hp).app hi) (by rw [map_arr ac.eval as]; exact hargs)).mono ?_
  rintro e w' ⟨u, ph', x, H', rfl, hle, hi', hx, rfl, rfl⟩
  exact kk ph' _ w' hle ((HSub.perm hp.symm).app hi') hx
theorem hsub_front {a : Atom} {k : Nat} (hk : H[k]? = some a) : HSub H ([a] ++ H.eraseIdx k) := by
  have hfr : L.front k H = [a] ++ H.eraseIdx k := by unfold L.front; rw [hk]; rfl
  have := front_perm k H
  rw [hfr] at this
  exact HSub.perm this
theorem LO.call1 {f : FuncId} {fn : Func} {as : Array Operand} {ts : Array TypeId} {vs : List LV} {post : LV → List Atom → Prop} {d : Tmp} {a : Atom} (k : Nat) (hk : st.heap[k]? = some a) (hc : LCalls P f vs [a] post) (hf : P.funcs[f]? = some fn) (hname : (fn.name == "runtime.NumGoroutine") = false) (hb : fn.body.isSome = true) (hd : Nat.blt d st.n.k = true) (ha : Opds st.env as.toList vs)
    (h : ∀ r H', post r H' → K ⟨st.n, (d, r) :: st.env, H' ++ st.heap.eraseIdx k⟩) : LO P ⟨some d, .call { callee := .value (.func f), args := as, argTypes := ts }, ty, pos, af, g⟩ st K := LO.call hc hf hname hb hd (hsub_front hk) ha h
theorem Elems.nil {k : Nat} : Elems env k [] [] := trivial
theorem Elems.cons {k : Nat} {x : Operand} {v : LV} {c : List LV} {ps : List (Nat × Operand)} {es : List (List LV)} (h : Is (ev env x) v) (hc : Cells v c) (r : Elems env (k + 1) ps es) : Elems env k ((k, x) :: ps) (c :: es) := ⟨rfl, ⟨v, h, hc⟩, r⟩
theorem Elems.laid {size : Nat} : ∀ {ps : List (Nat × Operand)} {es : List (List LV)} {k : Nat} {pre rest : List LV}, Elems env k ps es → (∀ e ∈ es, e.length = size) → pre.length = k * size → rest.length = es.length * size → ∃ qs, Parts env ps qs ∧ L.laid (fun i => some (i * size, size)) (pre ++ rest) qs = some (pre ++ es.flatten)
  | [], [], k, pre, rest, _, _, _, hr => ⟨[], trivial, by
      obtain rfl : rest = [] := List.eq_nil_of_length_eq_zero (by simpa using hr)
      simp [L.laid]⟩
  | (i, x) :: ps, c :: es, k, pre, rest, ⟨hik, hv, hE⟩, hs, hp, hr => by
    subst hik
    have hc := hs c (by simp)
    simp only [List.length_cons, Nat.succ_mul] at hr
    have hput : putAt (pre ++ rest) (i * size) c = (pre ++ c) ++ rest.drop size := by
      unfold putAt
      rw [List.take_append_of_le_length (by omega), List.take_of_length_le (by omega), List.drop_append]
      rw [List.drop_of_length_le (by omega), List.nil_append, hp, hc, Nat.add_sub_cancel_left]
    obtain ⟨qs, h1, h2⟩ := Elems.laid (pre := pre ++ c) (rest := rest.drop size) hE (fun e he => hs e (List.mem_cons_of_mem _ he)) (by rw [List.length_append, hp, hc, Nat.succ_mul]) (by rw [List.length_drop]; omega)
    refine ⟨(i, c) :: qs, ⟨rfl, hv, h1⟩, ?_⟩
    have hcond : (Nat.beq c.length size && Nat.ble (i * size + c.length) (pre ++ rest).length) = true := by
      rw [Bool.and_eq_true]
      exact ⟨by rw [hc]; exact Nat.beq_refl _, Nat.ble_eq_true_of_le (by rw [List.length_append]; omega)⟩
    simp only [L.laid, hcond, cond_true, hput]
    rw [h2, List.flatten_cons, List.append_assoc]
  | [], _ :: _, _, _, _, h, _, _, _ => h.elim
  | _ :: _, [], _, _, _, h, _, _, _ => h.elim
/-- []T{a, b, ..} -/
theorem LU.lits {t e : TypeId} {n size : Nat} {ps : Array (Nat × Operand)} {es : List (List LV)} {z : Value} (ht : P.underlying t = some (.slice e)) (hs : ∀ w, (sizeOf e).run P w = .ok size w) (hz : ∀ w, (zeroValue e).run P w = .ok z w) (hz1 : ∀ (i : Nat) (c : Value), z.cells[i]? = some c → c.oneCell' = true) (hzs : z.cells.size = size) (hs0 : 0 < size) (hn : n * size ≤ 16777216)
    (hp : Elems env 0 ps.toList es) (hes : ∀ e ∈ es, e.length = size) (hen : es.length = n) : LU P env H ⟨d, .buildSlice t n ps, ty, pos, af, g⟩ (.sl size es .full) := by
  have hzl : ((List.replicate n (raws z.cells.toList)).flatten).length = n * size := by simp [raws, hzs]
  obtain ⟨qs, h1, h2⟩ := Elems.laid (pre := []) (rest := (List.replicate n (raws z.cells.toList)).flatten) hp hes (by simp) (by rw [hzl, hen])
  have := LU.lit (P := P) (H := H) (d := d) (ty := ty) (pos := pos) (af := af) (g := g) ht hs hz hz1 hzs hs0 hn h1 h2
  rw [List.nil_append, ← List.append_nil es.flatten, chunks_flat size es n [] hen hes] at this
  exact this
theorem Opds.nil : Opds env [] [] := trivial
theorem Opds.cons {x : Operand} {v : LV} {xs : List Operand} {vs : List LV} (h : Is (ev env x) v) (k : Opds env xs vs) : Opds env (x :: xs) (v :: vs) := ⟨h, k⟩
theorem Parts.nil : Parts env [] [] := trivial
theorem Parts.cons {i : Nat} {x : Operand} {v : LV} {c : List LV} {ps : List (Nat × Operand)} {qs : List (Nat × List LV)} (h : Is (ev env x) v) (hc : Cells v c) (k : Parts env ps qs) : Parts env ((i, x) :: ps) ((i, c) :: qs) := ⟨rfl, ⟨v, h, hc⟩, k⟩
/-! ### composites compared -/
def EqR (P : Program) (n : Nat) (t : TypeId) (x y : Value) (b : Bool) : Prop := ∀ d w, (Op.equalIn (d + n) t x y).run P w = .ok b w
theorem EqR.int {t : TypeId} {k k' : IntKind} {a b : Int} (h : P.underlying t = some (.int k')) : EqR P 1 t (.int k a) (.int k b) (decide (a = b)) := fun d w => by rw [run_equalIn_int w d t k k' a b h, beq_dec]
theorem EqR.bool {t : TypeId} {a b : Bool} (h : P.underlying t = some .bool) : EqR P 1 t (.bool a) (.bool b) (a == b) := fun d w => run_equalIn_bool' w d t a b h
theorem EqR.string {t : TypeId} {a b : ByteArray} (h : P.underlying t = some .string) : EqR P 1 t (.string a) (.string b) (a.toList == b.toList) := fun d w => run_equalIn_string w d t a b h
theorem EqR.up {n : Nat} {t : TypeId} {x y : Value} {b : Bool} (k : Nat) (h : EqR P n t x y b) : EqR P (n + k) t x y b := fun d w => by
  rw [show d + (n + k) = (d + k) + n by omega]
  exact h _ w
inductive RawL : List LV → List Value → Prop where
  | nil : RawL [] []
  | cons {v : Value} {l : List LV} {vs : List Value} (h : RawL l vs) : RawL (.raw v :: l) (v :: vs)
theorem RawL.eq : ∀ {l : List LV} {vs : List Value}, RawL l vs → l = raws vs
  | _, _, .nil => rfl
  | _, _, .cons h => by rw [h.eq]; rfl
theorem RawL.raws : ∀ (vs : List Value), RawL (L.raws vs) vs
  | [] => .nil
  | v :: vs => .cons (RawL.raws vs)
inductive EqFs (P : Program) (n : Nat) (xs ys : Array Value) : List Field → Bool → Prop where
  | nil : EqFs P n xs ys [] true
  | one {f : Field} {u v : Value} {b : Bool} (hn : (f.name != "_") = true) (hu : ∀ w, (part f.type xs f.offset).run P w = .ok u w) (hv : ∀ w, (part f.type ys f.offset).run P w = .ok v w) (he : EqR P n f.type u v b) : EqFs P n xs ys [f] b
  | cons {f : Field} {fs : List Field} {u v : Value} {b c : Bool} (hn : (f.name != "_") = true) (hu : ∀ w, (part f.type xs f.offset).run P w = .ok u w) (hv : ∀ w, (part f.type ys f.offset).run P w = .ok v w) (he : EqR P n f.type u v b) (h : EqFs P n xs ys fs c) : EqFs P n xs ys (f :: fs) (b && c)
theorem EqFs.run {n : Nat} {xs ys : Array Value} : ∀ {fs : List Field} {b : Bool}, EqFs P n xs ys fs b → ∀ d w, (Op.eqFields (d + n) xs ys fs).run P w = .ok b w
  | _, _, .nil, d, w => rfl
  | _, _, .one (b := b) hn hu hv he, d, w => by
    have hn' := by simpa using hn
    simp only [Op.eqFields, ne_eq, hn', not_false_eq_true, if_true, Sem.run_bind, hu, hv, Result.andThen_ok, he d w]
    cases b <;> rfl
  | _, _, .cons (b := b) hn hu hv he h, d, w => by
    have hn' := by simpa using hn
    simp only [Op.eqFields, ne_eq, hn', not_false_eq_true, if_true, Sem.run_bind, hu, hv, Result.andThen_ok, he d w]
    cases b
    · rfl
    · simpa using EqFs.run h d w
theorem EqR.struct {n : Nat} {t : TypeId} {fs : Array Field} {xs ys : Array Value} {b : Bool} (ht : P.underlying t = some (.struct fs)) (hp : P.stoodInHeld t = false) (h : EqFs P n xs ys fs.toList b) : EqR P (n + 1) t (.agg xs) (.agg ys) b := fun d w => by
  have hf : P.fieldsOf t = fs := by simp [Program.fieldsOf, ht]
  rw [show d + (n + 1) = (d + n) + 1 by omega, run_equalIn_struct w (d + n) t xs ys (by rw [hf]; exact ht) hp, hf]
  exact h.run d w
theorem part_one {t : TypeId} (ht : ∀ w, (isAgg t).run P w = .ok false w) {cs : Array Value} {off : Nat} {v : Value} (h : cs[off]? = some v) (w : World) : (part t cs off).run P w = .ok v w := by
  obtain ⟨h1, h2⟩ := Array.getElem?_eq_some_iff.1 h
  simp [part, ht, h1, h2]
theorem part_agg {t : TypeId} {size : Nat} (hs : ∀ w, (sizeOf t).run P w = .ok size w) (ht : ∀ w, (isAgg t).run P w = .ok true w) {cs : Array Value} {off : Nat} {c : Array Value} (h : cs.extract off (off + size) = c) (w : World) : (part t cs off).run P w = .ok (.agg c) w := by
  simp [part, ht, hs, h]
theorem LU.eqlA {x y : Operand} {t t' : TypeId} {cs ds : List LV} {vs us : List Value} {n : Nat} {b : Bool} (hx : Is (ev env x) (.agg cs)) (hy : Is (ev env y) (.agg ds)) (rx : RawL cs vs) (ry : RawL ds us) (hg : P.eqGuardType P.depth t = false) (hn : Nat.ble n 10000 = true) (he : EqR P n t (.agg vs.toArray) (.agg us.toArray) b) : LU P env H ⟨d, .binOp .eql t x y t', ty, pos, af, g⟩ (.raw (.bool b)) := by
  rw [rx.eq] at hx
  rw [ry.eq] at hy
  exact .raw fun ac hl w => by
    have h1 := hl x (by simp [Op.operands]) _ (hx.trans Is.agg_raw)
    have h2 := hl y (by simp [Op.operands]) _ (hy.trans Is.agg_raw)
    have hn' := Nat.le_of_ble_eq_true hn
    have h3 := he (10000 - n) w
    rw [show 10000 - n + n = 10000 by omega] at h3
    simp only [execOp, h1, h2, Sem.run_bind, run_eqGuard_agg w .eql t x y _ _ hg, Result.andThen_ok, run_eql_struct, h3, Sem.run_pure]
theorem LU.neqA {x y : Operand} {t t' : TypeId} {cs ds : List LV} {vs us : List Value} {n : Nat} {b : Bool} (hx : Is (ev env x) (.agg cs)) (hy : Is (ev env y) (.agg ds)) (rx : RawL cs vs) (ry : RawL ds us) (hg : P.eqGuardType P.depth t = false) (hn : Nat.ble n 10000 = true) (he : EqR P n t (.agg vs.toArray) (.agg us.toArray) b) : LU P env H ⟨d, .binOp .neq t x y t', ty, pos, af, g⟩ (.raw (.bool (!b))) := by
  rw [rx.eq] at hx
  rw [ry.eq] at hy
  exact .raw fun ac hl w => by
    have h1 := hl x (by simp [Op.operands]) _ (hx.trans Is.agg_raw)
    have h2 := hl y (by simp [Op.operands]) _ (hy.trans Is.agg_raw)
    have hn' := Nat.le_of_ble_eq_true hn
    have h3 := he (10000 - n) w
    rw [show 10000 - n + n = 10000 by omega] at h3
    simp only [execOp, h1, h2, Sem.run_bind, run_eqGuard_agg w .neq t x y _ _ hg, Result.andThen_ok, run_neq_struct, h3, Sem.run_pure]
theorem LU.min2 {x y : Operand} {t t' : TypeId} {k : IntKind} {a b : Int} (hx : Is (ev env x) (.raw (.int k a))) (hy : Is (ev env y) (.raw (.int k b))) : LU P env H ⟨d, .call { callee := .builtin .min, args := #[x, y], argTypes := #[t, t'] }, ty, pos, af, g⟩ (.raw (.int k (min a b))) := .raw fun ac hl w => by
  have h1 := hl x (by simp [Op.operands, Call.operands]) _ hx
  have h2 := hl y (by simp [Op.operands, Call.operands]) _ hy
  have e : (if b < a then b else a) = min a b := by omega
  simp [execOp, resolve, invoke, builtin, h1, h2, run_min_int2, e]
theorem LU.max2 {x y : Operand} {t t' : TypeId} {k : IntKind} {a b : Int} (hx : Is (ev env x) (.raw (.int k a))) (hy : Is (ev env y) (.raw (.int k b))) : LU P env H ⟨d, .call { callee := .builtin .max, args := #[x, y], argTypes := #[t, t'] }, ty, pos, af, g⟩ (.raw (.int k (max a b))) := .raw fun ac hl w => by
  have h1 := hl x (by simp [Op.operands, Call.operands]) _ hx
  have h2 := hl y (by simp [Op.operands, Call.operands]) _ hy
  have e : (if a < b then b else a) = max a b := by omega
  simp [execOp, resolve, invoke, builtin, h1, h2, run_max_int2, e]
theorem LU.max3 {x y z : Operand} {t t' t'' : TypeId} {k : IntKind} {a b c : Int} (hx : Is (ev env x) (.raw (.int k a))) (hy : Is (ev env y) (.raw (.int k b))) (hz : Is (ev env z) (.raw (.int k c))) : LU P env H ⟨d, .call { callee := .builtin .max, args := #[x, y, z], argTypes := #[t, t', t''] }, ty, pos, af, g⟩ (.raw (.int k (max (max a b) c))) := .raw fun ac hl w => by
  have h1 := hl x (by simp [Op.operands, Call.operands]) _ hx
  have h2 := hl y (by simp [Op.operands, Call.operands]) _ hy
  have h3 := hl z (by simp [Op.operands, Call.operands]) _ hz
  have e : (Builtin.max_ #[t, t', t''] ty #[.int k a, .int k b, .int k c]).run P w = .ok (.int k (max (max a b) c)) w := by
    simp only [Builtin.max_, List.foldlM_cons, List.foldlM_nil, Builtin.max2, Sem.run_bind, Sem.run_pure, Result.andThen_ok]
    congr 2
    split <;> split <;> omega
  simp [execOp, resolve, invoke, builtin, h1, h2, h3, e]
/-- A result that lies in memory. -/
theorem Res.cell2 {a t : Tmp} {ta : TypeId} {st : LS} {b off : Nat} {tb : TypeId} {xs : List LV} {size : Nat} {agg : Bool} {v r s : LV} (k : Nat) (hk : st.heap[k]? = some (.cells b tb xs)) (ha : get st.env a = .raw (.pointer (some ⟨b, off, Option.none⟩))) (ht : Ty P ta size agg) (hv : Part size agg xs off v) (hr : Is v r) (hs : Is (get st.env t) s) : Res P #[.cell a ta, .tmp t] st (.tup [r, s]) := fun w0 ph ac w fn h rl => by
  obtain ⟨F, hF, cs, hh, hc⟩ := rl.inv.atom_at hk
  have h1 := rl.tmps a
  rw [ha] at h1
  obtain ⟨z, hrun, hrep⟩ := creps_part (P := P) hc ht hv (w := w) (b := b) (fun i c hi => by rw [cell_of_row w b i cs tb (0, 0) hh]; exact hi)
  refine ⟨.tuple #[z, ac.tmps.getD t undef], by
    have h2 := h1.rawE
    rw [Array.getD_eq_getD_getElem?] at h2
    simp [results, h, h2, asAddr, hrun], .tup _ _ rfl fun i c x h2 h3 => ?_⟩
  match i with
  | 0 => simp at h2 h3; subst h2; subst h3; exact hr _ _ hrep
  | 1 => simp at h2 h3; subst h2; subst h3; exact hs _ _ (by simpa using rl.tmps t)
  | k + 2 => simp at h2
theorem Res.cell1 {a : Tmp} {ta : TypeId} {st : LS} {b off : Nat} {tb : TypeId} {xs : List LV} {size : Nat} {agg : Bool} {v r : LV} (k : Nat) (hk : st.heap[k]? = some (.cells b tb xs)) (ha : get st.env a = .raw (.pointer (some ⟨b, off, Option.none⟩))) (ht : Ty P ta size agg) (hv : Part size agg xs off v) (hr : Is v r) : Res P #[.cell a ta] st r := fun w0 ph ac w fn h rl => by
  obtain ⟨F, hF, cs, hh, hc⟩ := rl.inv.atom_at hk
  have h1 := rl.tmps a
  rw [ha] at h1
  obtain ⟨z, hrun, hrep⟩ := creps_part (P := P) hc ht hv (w := w) (b := b) (fun i c hi => by rw [cell_of_row w b i cs tb (0, 0) hh]; exact hi)
  exact ⟨z, by
    have h2 := h1.rawE
    rw [Array.getD_eq_getD_getElem?] at h2
    simp [results, h, h2, asAddr, hrun], hr _ _ hrep⟩
/-- Quiet operations of a region that draws its order. -/
def QD (P : Program) (ops : Array Oper) (H : List Atom) (n : NN) (env : List (Nat × LV)) (l : List Oper) (K : List (Nat × LV) → Prop) : Prop := ∃ env', QC P ops H env l env' ∧ (l.all fun o => match o.dst with | some d => Nat.blt d n.k | none => false) = true ∧ K env'
theorem QD.nil {ops : Array Oper} {n : NN} {K : List (Nat × LV) → Prop} (h : K env) : QD P ops H n env [] K := ⟨env, .nil _, rfl, h⟩
theorem QD.q {ops : Array Oper} {n : NN} {K : List (Nat × LV) → Prop} {o : Oper} {l : List Oper} {v : LV} {d : Nat} (hq : LQ P ops env H o v) (hd : o.dst = some d) (hds : Nat.blt d n.k = true) (h : QD P ops H n ((d, v) :: env) l K) : QD P ops H n env (o :: l) K := by
  obtain ⟨e, h1, h2, h3⟩ := h
  exact ⟨e, .cons hq hd h1, by simp only [List.all_cons, hd, hds, h2, Bool.and_self], h3⟩
theorem QD.u {ops : Array Oper} {n : NN} {K : List (Nat × LV) → Prop} {l : List Oper} {v : LV} {d : Nat} {op : Op} (hq : LU P env H ⟨some d, op, ty, pos, af, none⟩ v) (hds : Nat.blt d n.k = true) (h : QD P ops H n ((d, v) :: env) l K) : QD P ops H n env (⟨some d, op, ty, pos, af, none⟩ :: l) K := .q (.plain rfl hq) rfl hds h
theorem QD.gT {ops : Array Oper} {n : NN} {K : List (Nat × LV) → Prop} {l : List Oper} {v : LV} {d j dj : Nat} {op : Op} {b : Bool} (hd : (ops[j]?).bind (·.dst) = some dj) (hb : get env dj = .raw (.bool b)) (hq : b = true → LU P env H ⟨some d, op, ty, pos, af, some (j, true)⟩ v) (hds : Nat.blt d n.k = true) (h : QD P ops H n ((d, .when b v) :: env) l K) : QD P ops H n env (⟨some d, op, ty, pos, af, some (j, true)⟩ :: l) K := .q (.guardT rfl hd hb hq) rfl hds h
theorem QD.gF {ops : Array Oper} {n : NN} {K : List (Nat × LV) → Prop} {l : List Oper} {v : LV} {d j dj : Nat} {op : Op} {b : Bool} (hd : (ops[j]?).bind (·.dst) = some dj) (hb : get env dj = .raw (.bool b)) (hq : b = false → LU P env H ⟨some d, op, ty, pos, af, some (j, false)⟩ v) (hds : Nat.blt d n.k = true) (h : QD P ops H n ((d, .when (!b) v) :: env) l K) : QD P ops H n env (⟨some d, op, ty, pos, af, some (j, false)⟩ :: l) K := .q (.guardF rfl hd hb hq) rfl hds h
theorem QD.gT2 {ops : Array Oper} {n : NN} {K : List (Nat × LV) → Prop} {l : List Oper} {v : LV} {d j dj : Nat} {op : Op} {b : Bool} {q : Bool} (hd : (ops[j]?).bind (·.dst) = some dj) (hb : get env dj = .when q (.raw (.bool b))) (hq : q = true → b = true → LU P env H ⟨some d, op, ty, pos, af, some (j, true)⟩ v) (hds : Nat.blt d n.k = true) (h : QD P ops H n ((d, .when (q && b) v) :: env) l K) : QD P ops H n env (⟨some d, op, ty, pos, af, some (j, true)⟩ :: l) K := .q (.guardT2 rfl hd hb hq) rfl hds h
theorem QD.gF2 {ops : Array Oper} {n : NN} {K : List (Nat × LV) → Prop} {l : List Oper} {v : LV} {d j dj : Nat} {op : Op} {b : Bool} {q : Bool} (hd : (ops[j]?).bind (·.dst) = some dj) (hb : get env dj = .when q (.raw (.bool b))) (hq : q = true → b = false → LU P env H ⟨some d, op, ty, pos, af, some (j, false)⟩ v) (hds : Nat.blt d n.k = true) (h : QD P ops H n ((d, .when (q && !b) v) :: env) l K) : QD P ops H n env (⟨some d, op, ty, pos, af, some (j, false)⟩ :: l) K := .q (.guardF2 rfl hd hb hq) rfl hds h
theorem LW.drawM (m : Nat) {id : Nat} {l : List Oper} {Q : Exit → LS → Prop} (hmo : P.follows .mixedOrders = true) (hok : drawOk l.toArray m = true) (hm : Nat.ble m l.length = true) (h : QD P l.toArray st.heap st.n st.env (l.take m) fun env' => LL P l.toArray (l.drop m) ⟨st.n, env', st.heap⟩ (fun s => Q .normal s)) (hnd : noDefer l = true := by kernel_rfl) : LW P (.region id l.toArray true) st Q := by
  obtain ⟨env', h1, h2, h3⟩ := h
  have hlen : (l.take m).length = m := by rw [List.length_take]; have := Nat.le_of_ble_eq_true hm; omega
  exact LW.draw hmo (List.take_append_drop m l).symm (by rw [hlen]; exact hok) h2 h1 h3 hnd
/-- How a body ends. -/
theorem Ends.ret {rs : Array ResultVar} {R H' : List Atom} {post : LV → List Atom → Prop} {r : LV} (hr : Res P rs st r) (hh : HSub st.heap (H' ++ R)) (hp : post r H') (hd : st.n.df = []) : Ends P rs R post .ret st := ⟨.inr rfl, .plain hd hr hh hp⟩
theorem Ends.normal {rs : Array ResultVar} {R H' : List Atom} {post : LV → List Atom → Prop} {r : LV} (hr : Res P rs st r) (hh : HSub st.heap (H' ++ R)) (hp : post r H') (hd : st.n.df = []) : Ends P rs R post .normal st := ⟨.inl rfl, .plain hd hr hh hp⟩
end
end Go.L

set_option linter.unusedVariables false
set_option linter.unusedSimpArgs false
namespace Go.L
open Go.RowKit

theorem IsR {x : LV} {v : Value} (h : x = .raw v) : Is x (.raw v) := .of h
theorem IsA {x : LV} {cs : List LV} (h : x = .agg cs) : Is x (.agg cs) := .of h
theorem IsT {x : LV} {cs : List LV} (h : x = .tup cs) : Is x (.tup cs) := .of h
theorem IsP {x : LV} {cs : List LV} (h : x = .pin cs) : Is x (.pin cs) := .of h
theorem IsS {x : LV} {size : Nat} {es : List (List LV)} {k : Cap} (h : x = .sl size es k) : Is x (.sl size es .unk) := (Is.of h).trans Is.unk
theorem asB {x : LV} {b c : Bool} (h : x = .raw (.bool b)) (hb : b = c) : Is x (.raw (.bool c)) := .of (by rw [h, hb])
theorem asI {x : LV} {k : IntKind} {a b : Int} (h : x = .raw (.int k a)) (hb : a = b) : Is x (.raw (.int k b)) := .of (by rw [h, hb])
theorem asS {x : LV} {size : Nat} {es fs : List (List LV)} {k : Cap} (h : x = .sl size es k) (hb : es = fs) : Is x (.sl size fs k) := .of (by rw [h, hb])
theorem HSub.mid {a : Atom} {H K : List Atom} : HSub (a :: (H ++ K)) (H ++ (a :: K)) := HSub.perm List.perm_middle.symm
theorem HSub.pick {a : Atom} {H K : List Atom} (k : Nat) (hk : H[k]? = some a) (h : HSub (H.eraseIdx k) K) : HSub H (a :: K) := (hsub_front hk).trans (HSub.cons h)
namespace X
section
variable {P : Program} {ops : Array Oper} {n : NN} {env : List (Nat × LV)} {H : List Atom} {K : LS → Prop} {l : List Oper} {ty : TypeId} {pos : String} {af : Array Edge} {g : Option (Nat × Bool)}
theorem u {v : LV} {d : Nat} {op : Op} (hq : LU P env H ⟨some d, op, ty, pos, af, none⟩ v) (hds : Nat.blt d n.k = true) (h : LL P ops l ⟨n, (d, v) :: env, H⟩ K) : LL P ops (⟨some d, op, ty, pos, af, none⟩ :: l) ⟨n, env, H⟩ K := LL.u hq hds h
theorem gT {v : LV} {d j dj : Nat} {op : Op} {b : Bool} (hd : (ops[j]?).bind (·.dst) = some dj) (hb : get env dj = .raw (.bool b)) (hq : b = true → LU P env H ⟨some d, op, ty, pos, af, some (j, true)⟩ v) (hds : Nat.blt d n.k = true) (h : LL P ops l ⟨n, (d, .when b v) :: env, H⟩ K) : LL P ops (⟨some d, op, ty, pos, af, some (j, true)⟩ :: l) ⟨n, env, H⟩ K := LL.gT hd hb hq hds h
theorem gF {v : LV} {d j dj : Nat} {op : Op} {b : Bool} (hd : (ops[j]?).bind (·.dst) = some dj) (hb : get env dj = .raw (.bool b)) (hq : b = false → LU P env H ⟨some d, op, ty, pos, af, some (j, false)⟩ v) (hds : Nat.blt d n.k = true) (h : LL P ops l ⟨n, (d, .when (!b) v) :: env, H⟩ K) : LL P ops (⟨some d, op, ty, pos, af, some (j, false)⟩ :: l) ⟨n, env, H⟩ K := LL.gF hd hb hq hds h
theorem gT2 {v : LV} {d j dj : Nat} {op : Op} {b q : Bool} (hd : (ops[j]?).bind (·.dst) = some dj) (hb : get env dj = .when q (.raw (.bool b))) (hq : q = true → b = true → LU P env H ⟨some d, op, ty, pos, af, some (j, true)⟩ v) (hds : Nat.blt d n.k = true) (h : LL P ops l ⟨n, (d, .when (q && b) v) :: env, H⟩ K) : LL P ops (⟨some d, op, ty, pos, af, some (j, true)⟩ :: l) ⟨n, env, H⟩ K := LL.gT2 hd hb hq hds h
theorem gF2 {v : LV} {d j dj : Nat} {op : Op} {b q : Bool} (hd : (ops[j]?).bind (·.dst) = some dj) (hb : get env dj = .when q (.raw (.bool b))) (hq : q = true → b = false → LU P env H ⟨some d, op, ty, pos, af, some (j, false)⟩ v) (hds : Nat.blt d n.k = true) (h : LL P ops l ⟨n, (d, .when (q && !b) v) :: env, H⟩ K) : LL P ops (⟨some d, op, ty, pos, af, some (j, false)⟩ :: l) ⟨n, env, H⟩ K := LL.gF2 hd hb hq hds h
theorem lq_skip {o : Oper} {j d : Nat} {want b : Bool} (hg : o.guard = some (j, want)) (hd : (ops[j]?).bind (·.dst) = some d) (hb : get env d = .raw (.bool b)) (hne : b ≠ want) : LQ P ops env H o (.raw undef) := fun w0 ph a w hi hl N Q k => by
  have hr := hl d (List.mem_append_right _ (by simp [hg, hd]))
  rw [hb] at hr
  have hy := yields' (ops := ops) (ph := ph) (env := env) hd hr.rawE
  rw [if_neg (by simp [Region.wanted, hg, hy, hne])]
  exact k ph undef w (PH.le.refl _) hi (.raw _)
theorem lq_skipU {o : Oper} {j d : Nat} {want : Bool} (hg : o.guard = some (j, want)) (hd : (ops[j]?).bind (·.dst) = some d) (hb : get env d = .raw undef) : LQ P ops env H o (.raw undef) := fun w0 ph a w hi hl N Q k => by
  have hr := hl d (List.mem_append_right _ (by simp [hg, hd]))
  rw [hb] at hr
  have hy := yielded_undef (ops := ops) hd hr.rawE
  rw [if_neg (by simp [Region.wanted, hg, hy])]
  exact k ph undef w (PH.le.refl _) hi (.raw _)
theorem lq_skip2 {o : Oper} {j d : Nat} {want b : Bool} (hg : o.guard = some (j, want)) (hd : (ops[j]?).bind (·.dst) = some d) (hb : get env d = .when false (.raw (.bool b))) : LQ P ops env H o (.when false (.raw (.bool b))) := fun w0 ph a w hi hl N Q k => by
  have hr := hl d (List.mem_append_right _ (by simp [hg, hd]))
  have hy := yielded_undef (ops := ops) hd (((GuardIs.when hb) _ _ hr).2 rfl)
  rw [if_neg (by simp [Region.wanted, hg, hy])]
  exact k ph undef w (PH.le.refl _) hi (.when _ _ _ (by simp) (fun _ => rfl))
theorem lq_do {o : Oper} {v : LV} {j d : Nat} {want : Bool} (hg : o.guard = some (j, want)) (hd : (ops[j]?).bind (·.dst) = some d) (hb : get env d = .raw (.bool want)) (h : LU P env H o v) : LQ P ops env H o v := fun w0 ph a w hi hl N Q k => by
  have hr := hl d (List.mem_append_right _ (by simp [hg, hd]))
  rw [hb] at hr
  have hy := yields' (ops := ops) (ph := ph) (env := env) hd hr.rawE
  rw [if_pos (by simp [Region.wanted, hg, hy])]
  exact h w0 ph a w hi (looks_eval hl) N Q k
theorem doT {v : LV} {d j dj : Nat} {op : Op} (hd : (ops[j]?).bind (·.dst) = some dj) (hb : get env dj = .raw (.bool true)) (hq : LU P env H ⟨some d, op, ty, pos, af, some (j, true)⟩ v) (hds : Nat.blt d n.k = true) (h : LL P ops l ⟨n, (d, v) :: env, H⟩ K) : LL P ops (⟨some d, op, ty, pos, af, some (j, true)⟩ :: l) ⟨n, env, H⟩ K := LL.q (lq_do rfl hd hb hq) rfl hds h
theorem doF {v : LV} {d j dj : Nat} {op : Op} (hd : (ops[j]?).bind (·.dst) = some dj) (hb : get env dj = .raw (.bool false)) (hq : LU P env H ⟨some d, op, ty, pos, af, some (j, false)⟩ v) (hds : Nat.blt d n.k = true) (h : LL P ops l ⟨n, (d, v) :: env, H⟩ K) : LL P ops (⟨some d, op, ty, pos, af, some (j, false)⟩ :: l) ⟨n, env, H⟩ K := LL.q (lq_do rfl hd hb hq) rfl hds h
theorem skipF {d j dj : Nat} {op : Op} (hd : (ops[j]?).bind (·.dst) = some dj) (hb : get env dj = .raw (.bool true)) (hds : Nat.blt d n.k = true) (h : LL P ops l ⟨n, (d, .raw undef) :: env, H⟩ K) : LL P ops (⟨some d, op, ty, pos, af, some (j, false)⟩ :: l) ⟨n, env, H⟩ K := LL.q (lq_skip rfl hd hb (by simp)) rfl hds h
theorem skipT {d j dj : Nat} {op : Op} (hd : (ops[j]?).bind (·.dst) = some dj) (hb : get env dj = .raw (.bool false)) (hds : Nat.blt d n.k = true) (h : LL P ops l ⟨n, (d, .raw undef) :: env, H⟩ K) : LL P ops (⟨some d, op, ty, pos, af, some (j, true)⟩ :: l) ⟨n, env, H⟩ K := LL.q (lq_skip rfl hd hb (by simp)) rfl hds h
theorem skipU {d j dj : Nat} {op : Op} {want : Bool} (hd : (ops[j]?).bind (·.dst) = some dj) (hb : get env dj = .raw undef) (hds : Nat.blt d n.k = true) (h : LL P ops l ⟨n, (d, .raw undef) :: env, H⟩ K) : LL P ops (⟨some d, op, ty, pos, af, some (j, want)⟩ :: l) ⟨n, env, H⟩ K := LL.q (lq_skipU rfl hd hb) rfl hds h
theorem act {op : Op} {d : Option Nat} (h : LO P ⟨d, op, ty, pos, af, none⟩ ⟨n, env, H⟩ (fun s => LL P ops l s K)) : LL P ops (⟨d, op, ty, pos, af, none⟩ :: l) ⟨n, env, H⟩ K := LL.act h
/-- A guarded operation that acts, its guard told. -/
theorem actG {op : Op} {d : Option Nat} {j dj : Nat} {want : Bool} (hd : (ops[j]?).bind (·.dst) = some dj) (hb : get env dj = .raw (.bool want)) (h : LO P ⟨d, op, ty, pos, af, some (j, want)⟩ ⟨n, env, H⟩ (fun s => LL P ops l s K)) : LL P ops (⟨d, op, ty, pos, af, some (j, want)⟩ :: l) ⟨n, env, H⟩ K := fun w0 ph a w r Q k =>
  olist_step fun N hN => by
    have hy := yields r.tmps hd hb
    rw [if_pos (by simp [Region.wanted, hy])]
    exact h w0 ph a w r N Q fun ph' st' a' w' hle r' q => hN _ _ (q w0 ph' a' w' r' Q fun ph2 st2 a2 w2 hle2 r2 q2 => k ph2 st2 a2 w2 (hle.trans hle2) r2 q2)
/-- A guarded operation that acts, the ways parted. -/
theorem part {o : Oper} {j : Nat} {want : Bool} (hg : o.guard = some (j, want)) {d : Nat} (hd : (ops[j]?).bind (·.dst) = some d) {b : Bool} (hb : get env d = .raw (.bool b)) {dd : Nat} (hdd : o.dst = some dd) (hds : Nat.blt dd n.k = true)
    (ht : b = want → LO P o ⟨n, env, H⟩ (fun s => LL P ops l s K)) (hf : b = (!want) → LL P ops l ⟨n, (dd, .any) :: env, H⟩ K) : LL P ops (o :: l) ⟨n, env, H⟩ K := LL.opG hg hd hb hdd hds ht hf
theorem weak {t : Nat} {v : LV} (hs : Is (get env t) v) (h : LL P ops l ⟨n, (t, v) :: env, H⟩ K) : LL P ops l ⟨n, env, H⟩ K := LL.weak hs h
theorem ghost {H' : List Atom} (hs : HSub H H') (h : LL P ops l ⟨n, env, H'⟩ K) : LL P ops l ⟨n, env, H⟩ K := LL.ghost hs h
theorem wghost {c : Code} {Q : Exit → LS → Prop} {H' : List Atom} (hs : HSub H H') (h : LW P c ⟨n, env, H'⟩ Q) : LW P c ⟨n, env, H⟩ Q := LW.ghost hs h
theorem wweak {c : Code} {Q : Exit → LS → Prop} {t : Nat} {v : LV} (hs : Is (get env t) v) (h : LW P c ⟨n, (t, v) :: env, H⟩ Q) : LW P c ⟨n, env, H⟩ Q := LW.weakS hs h
theorem box {x : Operand} {t : TypeId} {d : Tmp} {v : LV} {xs : List LV} (hd : Nat.blt d n.k = true) (hx : Is (ev env x) v) (hc : Cells v xs) (h : ∀ b, K ⟨n, (d, .raw (.pointer (some ⟨b, 0, none⟩))) :: env, .cells b t xs :: H⟩) : LO P ⟨some d, .box t x, ty, pos, af, g⟩ ⟨n, env, H⟩ K := LO.box hd hx hc h
theorem alloc {t : TypeId} {d : Tmp} {z : Value} {xs : List LV} (hd : Nat.blt d n.k = true) (hz : ∀ w, (zeroValue t).run P w = .ok z w) (hc : Cells (.raw z) xs) (h : ∀ b, K ⟨n, (d, .raw (.pointer (some ⟨b, 0, none⟩))) :: env, .cells b t xs :: H⟩) : LO P ⟨some d, .alloc t, ty, pos, af, g⟩ ⟨n, env, H⟩ K := LO.alloc hd hz hc h
theorem store {x y : Operand} {t t' : TypeId} {size : Nat} {xs ys : List LV} {b off : Nat} {v : LV} (k : Nat) (hk : H[k]? = some (.cells b t' xs)) (hs : ∀ w, (sizeOf t).run P w = .ok size w) (hx : Is (ev env x) (.raw (.pointer (some ⟨b, off, none⟩)))) (hy : Is (ev env y) v) (hc : Cells v ys) (hys : ys.length = size) (hlen : off + size ≤ xs.length)
    (h : K ⟨n, env, .cells b t' (putAt xs off ys) :: H.eraseIdx k⟩) : LO P ⟨none, .store t x y, ty, pos, af, g⟩ ⟨n, env, H⟩ K := LO.store k hk hs hx hy hc hys hlen h
theorem append {s x : Operand} {t tx e : TypeId} {z : Value} {size by_ : Nat} {es ys : List (List LV)} {y : LV} {d : Tmp} {b o c : Nat} (k : Nat) (hk : H[k]? = some (.tail b o c)) (hd : Nat.blt d n.k = true) (ht : P.underlying t = some (.slice e)) (hel : El P e z size by_) (hs : Is (ev env s) (.sl size es (.tok b o c))) (hx : Is (ev env x) y) (hy : SrcL P tx size y ys) (hb : (es.length + ys.length) * by_ ≤ 140737488355328) (hb0 : es.length + ys.length ≤ 9223372036854775807)
    (h : ∀ b' o' c', K ⟨n, (d, .sl size (es ++ ys) (.tok b' o' c')) :: env, .tail b' o' c' :: H.eraseIdx k⟩) :
    LO P ⟨some d, .call { callee := .builtin .append, args := #[s, x], argTypes := #[t, tx] }, ty, pos, af, g⟩ ⟨n, env, H⟩ K := LO.append k hk hd ht hel hs hx hy hb hb0 h
/-- append(s, x..) where s has no room; the new room is ours. -/
theorem appendF {s x : Operand} {t tx e : TypeId} {z : Value} {size by_ : Nat} {es ys : List (List LV)} {y : LV} {d : Tmp} (hd : Nat.blt d n.k = true) (ht : P.underlying t = some (.slice e)) (hel : El P e z size by_) (hs : Is (ev env s) (.sl size es .full)) (hx : Is (ev env x) y) (hy : SrcL P tx size y ys) (hb : (es.length + ys.length) * by_ ≤ 140737488355328) (hb0 : es.length + ys.length ≤ 9223372036854775807)
    (h : ∀ b' o' c', K ⟨n, (d, .sl size (es ++ ys) (.tok b' o' c')) :: env, .tail b' o' c' :: H⟩) :
    LO P ⟨some d, .call { callee := .builtin .append, args := #[s, x], argTypes := #[t, tx] }, ty, pos, af, g⟩ ⟨n, env, H⟩ K := fun w0 ph a w r N Q k =>
  LO.append (st := ⟨n, env, .tail 0 0 0 :: H⟩) 0 rfl hd ht hel (hs.trans (Is.full_tok 0 0)) hx hy hb hb0 h w0 ph a w ⟨(HSub.tail0 0 0 0 (Nat.le_refl _) H).app r.inv, r.defers, r.size, r.tmps⟩ N Q k
theorem make {x y : Operand} {t e : TypeId} {z : Value} {by_ : Nat} {l c : Nat} {d : Tmp} {k1 k2 : IntKind} (hd : Nat.blt d n.k = true) (ht : P.underlying t = some (.slice e)) (hel : El P e z 1 by_) (hz : z.cells = #[z]) (hz1 : z.oneCell' = true) (hx : Is (ev env x) (.raw (.int k1 l))) (hy : Is (ev env y) (.raw (.int k2 c))) (hlc : l ≤ c) (hb : by_ * c ≤ 281474976710656) (hc : c ≤ 281474976710656)
    (h : ∀ b, K ⟨n, (d, .raw (.slice (some ⟨b, 0, none⟩) l c)) :: env, .cells b e (List.replicate c (.raw z)) :: H⟩) : LO P ⟨some d, .makeSlice t x y, ty, pos, af, g⟩ ⟨n, env, H⟩ K := LO.make hd ht hel hz hz1 hx hy hlc hb hc h
theorem make0 {x y : Operand} {t e : TypeId} {z : Value} {size by_ : Nat} {c : Nat} {d : Tmp} {k1 k2 : IntKind} (hd : Nat.blt d n.k = true) (ht : P.underlying t = some (.slice e)) (hel : El P e z size by_) (hx : Is (ev env x) (.raw (.int k1 0))) (hy : Is (ev env y) (.raw (.int k2 c))) (hb : by_ * c ≤ 281474976710656) (hc : c ≤ 281474976710656)
    (h : ∀ b o m, K ⟨n, (d, .sl size [] (.tok b o m)) :: env, .tail b o m :: H⟩) : LO P ⟨some d, .makeSlice t x y, ty, pos, af, g⟩ ⟨n, env, H⟩ K := LO.make0 hd ht hel hx hy hb hc h
theorem call {f : FuncId} {fn : Func} {as : Array Operand} {ts : Array TypeId} {vs : List LV} {Hc R : List Atom} {post : LV → List Atom → Prop} {d : Tmp} (hc : LCalls P f vs Hc post) (hf : P.funcs[f]? = some fn) (hname : (fn.name == "runtime.NumGoroutine") = false) (hb : fn.body.isSome = true) (hd : Nat.blt d n.k = true) (hsub : HSub H (Hc ++ R)) (ha : Opds env as.toList vs)
    (h : ∀ r H', post r H' → K ⟨n, (d, r) :: env, H' ++ R⟩) : LO P ⟨some d, .call { callee := .value (.func f), args := as, argTypes := ts }, ty, pos, af, g⟩ ⟨n, env, H⟩ K := LO.call hc hf hname hb hd hsub ha h
theorem call1 {f : FuncId} {fn : Func} {as : Array Operand} {ts : Array TypeId} {vs : List LV} {post : LV → List Atom → Prop} {d : Tmp} {a : Atom} (k : Nat) (hk : H[k]? = some a) (hc : LCalls P f vs [a] post) (hf : P.funcs[f]? = some fn) (hname : (fn.name == "runtime.NumGoroutine") = false) (hb : fn.body.isSome = true) (hd : Nat.blt d n.k = true) (ha : Opds env as.toList vs)
    (h : ∀ r H', post r H' → K ⟨n, (d, r) :: env, H' ++ H.eraseIdx k⟩) : LO P ⟨some d, .call { callee := .value (.func f), args := as, argTypes := ts }, ty, pos, af, g⟩ ⟨n, env, H⟩ K := LO.call1 k hk hc hf hname hb hd ha h
theorem callV {f : FuncId} {fn : Func} {t : Operand} {as : Array Operand} {ts : Array TypeId} {vs : List LV} {caps : Array Value} {Hc R : List Atom} {post : LV → List Atom → Prop} {d : Tmp} (hc : LCalls P f (vs ++ raws caps.toList) Hc post) (ht : Is (ev env t) (.raw (.func (.func f) #[] caps))) (hf : P.funcs[f]? = some fn) (hname : (fn.name == "runtime.NumGoroutine") = false) (hb : fn.body.isSome = true) (hd : Nat.blt d n.k = true) (hsub : HSub H (Hc ++ R)) (ha : Opds env as.toList vs)
    (h : ∀ r H', post r H' → K ⟨n, (d, r) :: env, H' ++ R⟩) : LO P ⟨some d, .call { callee := .value t, args := as, argTypes := ts }, ty, pos, af, g⟩ ⟨n, env, H⟩ K := LO.callV hc ht hf hname hb hd hsub ha h
section
variable {Q : Exit → LS → Prop} {t : List It} {x y c : Code}
theorem cond {o : Operand} {b : Bool} (hc : ev env o = .raw (.bool b)) (ht : b = true → LW P x ⟨n, env, H⟩ Q) (hf : b = false → LW P y ⟨n, env, H⟩ Q) : LW P (.cond o x y) ⟨n, env, H⟩ Q := LW.cond hc ht hf
theorem condT {o : Operand} {b : Bool} (hc : ev env o = .raw (.bool b)) (hb : b = true) (h : LW P x ⟨n, env, H⟩ Q) : LW P (.cond o x y) ⟨n, env, H⟩ Q := LW.cond hc (fun _ => h) (fun h' => by rw [hb] at h'; cases h')
theorem condF {o : Operand} {b : Bool} (hc : ev env o = .raw (.bool b)) (hb : b = false) (h : LW P y ⟨n, env, H⟩ Q) : LW P (.cond o x y) ⟨n, env, H⟩ Q := LW.cond hc (fun h' => by rw [hb] at h'; cases h') (fun _ => h)
theorem drawM (m : Nat) {id : Nat} {l : List Oper} (hmo : P.follows .mixedOrders = true) (hok : drawOk l.toArray m = true) (hm : Nat.ble m l.length = true) (h : QD P l.toArray H n env (l.take m) fun env' => LL P l.toArray (l.drop m) ⟨n, env', H⟩ (fun s => Q .normal s)) (hnd : noDefer l = true := by kernel_rfl) : LW P (.region id l.toArray true) ⟨n, env, H⟩ Q := LW.drawM m hmo hok hm h hnd
theorem loopK {α : Type} (mod : α → List (Nat × LV)) (live : List Nat) (hp : α → List Atom) (φ : α → Prop) (μ : α → Nat) (p0 : α) (hm : EnvLe (mod p0) env) (hh : HSub H (hp p0)) (h0 : φ p0)
    (round : ∀ p, φ p → LW P c ⟨n, mod p ++ keep live env, hp p⟩ (after P (.rnd (Next n mod live env hp φ μ p) :: t) Q)) : LW P (.loop c) ⟨n, env, H⟩ (after P t Q) := LW.loopK mod live hp φ μ p0 hm hh h0 round
theorem meetK {α : Type} (mod : α → List (Nat × LV)) (live : List Nat) (hp : α → List Atom) (φ : α → Prop) (h : LW P x ⟨n, env, H⟩ (after P (.rnd (Meets n mod live env hp φ) :: t) Q)) (k : ∀ p, φ p → LW P y ⟨n, mod p ++ keep live env, hp p⟩ (after P t Q)) : LW P (.seq x y) ⟨n, env, H⟩ (after P t Q) := LW.meetK mod live hp φ h k
theorem next {α : Type} {m : NN} {e : List (Nat × LV)} {mod : α → List (Nat × LV)} {live : List Nat} {e0 : List (Nat × LV)} {hp : α → List Atom} {φ : α → Prop} {μ : α → Nat} {p : α} (q : α) (hn : n = m) (hm : EnvLe (mod q) e) (hk : Keeps live e0 e) (hh : HSub H (hp q)) (h1 : φ q) (h2 : μ q < μ p) : Next m mod live e0 hp φ μ p ⟨n, e, H⟩ := Next.mk' q hn hm hk hh h1 h2
theorem meets {α : Type} {m : NN} {e : List (Nat × LV)} {mod : α → List (Nat × LV)} {live : List Nat} {e0 : List (Nat × LV)} {hp : α → List Atom} {φ : α → Prop} (q : α) (hn : n = m) (hm : EnvLe (mod q) e) (hk : Keeps live e0 e) (hh : HSub H (hp q)) (h1 : φ q) : Meets m mod live e0 hp φ ⟨n, e, H⟩ := Meets.mk' q hn hm hk hh h1
theorem ret {rs : Array ResultVar} {R H' : List Atom} {post : LV → List Atom → Prop} {r : LV} (hr : Res P rs ⟨n, env, H⟩ r) (hh : HSub H (H' ++ R)) (hp : post r H') (hd : n.df = [] := by rfl) : Ends P rs R post .ret ⟨n, env, H⟩ := Ends.ret hr hh hp hd
theorem normal {rs : Array ResultVar} {R H' : List Atom} {post : LV → List Atom → Prop} {r : LV} (hr : Res P rs ⟨n, env, H⟩ r) (hh : HSub H (H' ++ R)) (hp : post r H') (hd : n.df = [] := by rfl) : Ends P rs R post .normal ⟨n, env, H⟩ := Ends.normal hr hh hp hd
end
end
end X
section
variable {P : Program} {ops : Array Oper} {n : NN} {env : List (Nat × LV)} {H : List Atom} {K : LS → Prop} {l : List Oper} {ty : TypeId} {pos : String} {af : Array Edge} {g : Option (Nat × Bool)} {d : Option Nat}
theorem QD.doT {L : List (Nat × LV) → Prop} {v : LV} {d j dj : Nat} {op : Op} (hd : (ops[j]?).bind (·.dst) = some dj) (hb : get env dj = .raw (.bool true)) (hq : LU P env H ⟨some d, op, ty, pos, af, some (j, true)⟩ v) (hds : Nat.blt d n.k = true) (h : QD P ops H n ((d, v) :: env) l L) : QD P ops H n env (⟨some d, op, ty, pos, af, some (j, true)⟩ :: l) L := .q (X.lq_do rfl hd hb hq) rfl hds h
theorem QD.doF {L : List (Nat × LV) → Prop} {v : LV} {d j dj : Nat} {op : Op} (hd : (ops[j]?).bind (·.dst) = some dj) (hb : get env dj = .raw (.bool false)) (hq : LU P env H ⟨some d, op, ty, pos, af, some (j, false)⟩ v) (hds : Nat.blt d n.k = true) (h : QD P ops H n ((d, v) :: env) l L) : QD P ops H n env (⟨some d, op, ty, pos, af, some (j, false)⟩ :: l) L := .q (X.lq_do rfl hd hb hq) rfl hds h
theorem QD.skipF {L : List (Nat × LV) → Prop} {d j dj : Nat} {op : Op} (hd : (ops[j]?).bind (·.dst) = some dj) (hb : get env dj = .raw (.bool true)) (hds : Nat.blt d n.k = true) (h : QD P ops H n ((d, .raw undef) :: env) l L) : QD P ops H n env (⟨some d, op, ty, pos, af, some (j, false)⟩ :: l) L := .q (X.lq_skip rfl hd hb (by simp)) rfl hds h
theorem QD.skipT {L : List (Nat × LV) → Prop} {d j dj : Nat} {op : Op} (hd : (ops[j]?).bind (·.dst) = some dj) (hb : get env dj = .raw (.bool false)) (hds : Nat.blt d n.k = true) (h : QD P ops H n ((d, .raw undef) :: env) l L) : QD P ops H n env (⟨some d, op, ty, pos, af, some (j, true)⟩ :: l) L := .q (X.lq_skip rfl hd hb (by simp)) rfl hds h
theorem QD.skipU {L : List (Nat × LV) → Prop} {d j dj : Nat} {op : Op} {want : Bool} (hd : (ops[j]?).bind (·.dst) = some dj) (hb : get env dj = .raw undef) (hds : Nat.blt d n.k = true) (h : QD P ops H n ((d, .raw undef) :: env) l L) : QD P ops H n env (⟨some d, op, ty, pos, af, some (j, want)⟩ :: l) L := .q (X.lq_skipU rfl hd hb) rfl hds h
theorem LU.pickT {c x y : Operand} {v : Value} (hc : Is (ev env c) (.raw (.bool true))) (hx : Is (ev env x) (.raw v)) : LU P env H ⟨d, .pick c x y, ty, pos, af, g⟩ (.raw v) := LU.pick hc (fun _ => hx) (fun h => by cases h)
theorem LU.pickF {c x y : Operand} {v : Value} (hc : Is (ev env c) (.raw (.bool false))) (hy : Is (ev env y) (.raw v)) : LU P env H ⟨d, .pick c x y, ty, pos, af, g⟩ (.raw v) := LU.pick hc (fun h => by cases h) (fun _ => hy)
theorem LU.nilEqS {x y : Operand} {t t' e : TypeId} {a : Addr} (ht : P.underlying t = some (.pointer e)) (hx : Is (ev env x) (.raw (.pointer (some a)))) (hy : Is (ev env y) (.raw (.pointer none))) : LU P env H ⟨d, .binOp .eql t x y t', ty, pos, af, g⟩ (.raw (.bool false)) := by simpa using LU.nilp (P := P) (H := H) (d := d) (ty := ty) (pos := pos) (af := af) (g := g) (t' := t') ht (.inl rfl) hx hy
theorem LU.nilEqN {x y : Operand} {t t' e : TypeId} (ht : P.underlying t = some (.pointer e)) (hx : Is (ev env x) (.raw (.pointer none))) (hy : Is (ev env y) (.raw (.pointer none))) : LU P env H ⟨d, .binOp .eql t x y t', ty, pos, af, g⟩ (.raw (.bool true)) := by simpa using LU.nilp (P := P) (H := H) (d := d) (ty := ty) (pos := pos) (af := af) (g := g) (t' := t') ht (.inl rfl) hx hy
theorem LU.nilNeS {x y : Operand} {t t' e : TypeId} {a : Addr} (ht : P.underlying t = some (.pointer e)) (hx : Is (ev env x) (.raw (.pointer (some a)))) (hy : Is (ev env y) (.raw (.pointer none))) : LU P env H ⟨d, .binOp .neq t x y t', ty, pos, af, g⟩ (.raw (.bool true)) := by simpa using LU.nilp (P := P) (H := H) (d := d) (ty := ty) (pos := pos) (af := af) (g := g) (t' := t') ht (.inr rfl) hx hy
theorem LU.nilNeN {x y : Operand} {t t' e : TypeId} (ht : P.underlying t = some (.pointer e)) (hx : Is (ev env x) (.raw (.pointer none))) (hy : Is (ev env y) (.raw (.pointer none))) : LU P env H ⟨d, .binOp .neq t x y t', ty, pos, af, g⟩ (.raw (.bool false)) := by simpa using LU.nilp (P := P) (H := H) (d := d) (ty := ty) (pos := pos) (af := af) (g := g) (t' := t') ht (.inr rfl) hx hy
end
end Go.L

set_option linter.unusedVariables false
set_option linter.unusedSimpArgs false
namespace Go.L
open Go.RowKit

def Weighs {H : Type} (P : Program) (t : TypeId) (d : DataW H) : Prop := ∀ n ∈ d.weights P t, n ≤ reachBytes
/-- Whatever of a type is read: its cells by their content, and what is said of them. -/
def Opens (P : Program) (t : TypeId) (Q : List LV → Prop) : Prop :=
  ∀ (H : Type) (enc : TypeId × Value → H) (w : World) (base : Nat) (spare : Nat → Bool) (held : Bool) (fuel : Nat) (cs : List Value) (x : DataW H × List MemPlace),
    DataW.trod enc P w base spare held fuel t cs = some x → Weighs P t x.1 → ∃ xs, CReps (PH.all w) cs.toArray xs ∧ Q xs
def QInt (k : IntKind) (xs : List LV) : Prop := ∃ n, xs = [.raw (.int k n)] ∧ (Lit.int k n).wf = true
def QBool (xs : List LV) : Prop := ∃ b, xs = [.raw (.bool b)]
def QStr (xs : List LV) : Prop := ∃ l : List UInt8, xs = [Str l] ∧ l.length ≤ reachBytes
def QSl (size B : Nat) (Q : List LV → Prop) (xs : List LV) : Prop := ∃ es, xs = [.sl size es .unk] ∧ (∀ c ∈ es, Q c) ∧ es.length * B ≤ reachBytes
def QNil (xs : List LV) : Prop := xs = []
def QCons (n : Nat) (Q1 Q2 : List LV → Prop) (xs : List LV) : Prop := ∃ a b, xs = a ++ b ∧ a.length = n ∧ Q1 a ∧ Q2 b
section
variable {P : Program}
theorem creps_one {ph : PH} {v : Value} {x : LV} (h1 : v.oneCell' = true) (r : Rep ph v x) : CReps ph [v].toArray [x] := by
  have := one_creps h1 r
  rwa [show v.cells = [v].toArray by cases v <;> first | rfl | (simp [Value.oneCell'] at h1)] at this
theorem Opens.int {t : TypeId} {k : IntKind} (ht : P.underlying t = some (.int k)) : Opens P t (QInt k) := fun H enc w base spare held fuel cs x h hw => by
  obtain ⟨n, rfl, _, hwf⟩ := DataW.trod_int ht h
  exact ⟨_, creps_one rfl (.raw _), n, rfl, hwf⟩
theorem Opens.bool {t : TypeId} (ht : P.underlying t = some .bool) : Opens P t QBool := fun H enc w base spare held fuel cs x h hw => by
  obtain ⟨b, rfl, _⟩ := DataW.trod_bool ht h
  exact ⟨_, creps_one rfl (.raw _), b, rfl⟩
theorem Opens.string {t : TypeId} (ht : P.underlying t = some .string) : Opens P t QStr := fun H enc w base spare held fuel cs x h hw => by
  obtain ⟨s, rfl, rfl, _⟩ := DataW.trod_string ht h
  refine ⟨[Str s.data.toList], creps_one rfl ?_, s.data.toList, rfl, hw _ (by simp [DataW.weights])⟩
  have : (⟨s.data.toList.toArray⟩ : ByteArray) = s := by cases s; simp
  show Rep _ _ (.raw (.string ⟨s.data.toList.toArray⟩))
  rw [this]
  exact .raw _
theorem weightsAll_mem {H : Type} {e : TypeId} : ∀ {l : List (DataW H)} {d : DataW H}, d ∈ l → ∀ n ∈ d.weights P e, n ∈ DataW.weightsAll P e l
  | d' :: l, d, h, n, hn => by
    rw [DataW.weightsAll]
    rcases List.mem_cons.1 h with rfl | h
    · exact List.mem_append_left _ hn
    · exact List.mem_append_right _ (weightsAll_mem h n hn)
theorem weightsEach_mem {H : Type} : ∀ {ts : List TypeId} {l : List (DataW H)} {i : Nat} {t : TypeId} {d : DataW H}, ts[i]? = some t → l[i]? = some d → ∀ n ∈ d.weights P t, n ∈ DataW.weightsEach P ts l
  | t' :: ts, d' :: l, 0, t, d, h1, h2, n, hn => by
    simp at h1 h2
    subst h1
    subst h2
    rw [DataW.weightsEach]
    exact List.mem_append_left _ hn
  | t' :: ts, d' :: l, i + 1, t, d, h1, h2, n, hn => by
    rw [DataW.weightsEach]
    exact List.mem_append_right _ (weightsEach_mem (by simpa using h1) (by simpa using h2) n hn)
  | [], _, _, _, _, h1, _, _, _ => by simp at h1
  | _ :: _, [], _, _, _, _, h2, _, _ => by simp at h2
theorem Opens.slice {t e : TypeId} {size B : Nat} {Q : List LV → Prop} (ht : P.underlying t = some (.slice e)) (hc : P.cellsOf e = size) (hb : P.bytesOf e = B) (hs0 : 0 < size) (he : Opens P e Q) : Opens P t (QSl size B Q) := fun H enc w base spare held fuel cs x h hw => by
  rcases DataW.trod_slice ht h with ⟨rfl, rfl⟩ | ⟨a, len, cap, elems, rest, n, _, rfl, rfl, hba, hl, hm, hlen, hel, hsp, hns⟩
  · exact ⟨[.sl size [] .unk], creps_one rfl (((Is.nil size).trans Is.unk) _ _ (.raw _)), [], rfl, by simp, by simp⟩
  · rw [hc] at hel
    have hwe : ∀ y ∈ elems, Weighs P e y.1 := fun y hy m hm' => hw m (by
      simp only [DataW.weights, ht]
      exact List.mem_cons_of_mem _ (List.mem_append_left _ (weightsAll_mem (List.mem_map_of_mem hy) m hm')))
    have key : ∀ i, ∃ c : List Value × List LV, i < len → w.cells? base (a.add (i * size)) size = some c.1 ∧ CReps (PH.all w) c.1.toArray c.2 ∧ Q c.2 := fun i => by
      by_cases hi : i < len
      · have h1 := hel i hi
        have hie : i < elems.length := by omega
        rw [List.getElem?_eq_getElem hie, Option.bind_eq_some_iff] at h1
        obtain ⟨c, hc1, hc2⟩ := h1
        obtain ⟨xs, h2, h3⟩ := he H enc w base spare held n c _ hc2 (hwe _ (List.getElem_mem hie))
        exact ⟨(c, xs), fun _ => ⟨hc1, h2, h3⟩⟩
      · exact ⟨([], []), fun h => absurd h hi⟩
    obtain ⟨f, hf⟩ := Classical.axiomOfChoice key
    have hcl : ∀ i, i < len → (f i).1.length = size ∧ (f i).2.length = size := fun i hi => by
      obtain ⟨h1, h2, _⟩ := hf i hi
      have h3 := (World.cells?_some h1).2.1
      have h4 := h2.1.1
      simp at h4
      omega
    have hget : ∀ (i : Nat) (e : List LV), ((List.range len).map fun i => (f i).2)[i]? = some e → i < len ∧ e = (f i).2 := fun i e hi => by
      simp only [List.getElem?_map, List.getElem?_range'] at hi
      by_cases h : i < len
      · simp [h] at hi
        exact ⟨h, hi.symm⟩
      · simp [h] at hi
    have hspot : 0 < len → a.spot = none := fun h0 => by
      obtain ⟨h1, _, _⟩ := hf 0 h0
      have h3 := (World.cells?_some h1).2.2 0 hs0
      have h4 := (hcl 0 h0).1
      rw [List.getElem?_eq_getElem (by omega), Nat.zero_mul] at h3
      cases hsq : a.spot with
      | none => rfl
      | some s =>
        rw [show (a.add 0).add 0 = a from rfl] at h3
        simp [World.cell?, hsq] at h3
        split at h3 <;> cases h3
    have hdiv : ∀ i j, j < size → (i * size + j) / size = i ∧ (i * size + j) % size = j := fun i j hj => by
      rw [Nat.mul_comm]
      exact ⟨by rw [Nat.mul_add_div hs0, Nat.div_eq_of_lt hj, Nat.add_zero], by rw [Nat.mul_add_mod, Nat.mod_eq_of_lt hj]⟩
    have hcell : ∀ (i : Nat) (e : List LV) (j : Nat) (x : LV), ((List.range len).map fun i => (f i).2)[i]? = some e → e[j]? = some x → ∃ hj : j < (f i).1.length, w.cell? (a.add (i * size + j)) = some (f i).1[j] ∧ Rep (PH.all w) (f i).1[j] x ∧ ((f i).1[j]).oneCell' = true := fun i e j x hi hj => by
      obtain ⟨hlt, rfl⟩ := hget i e hi
      obtain ⟨h1, h2, _⟩ := hf i hlt
      have hjs := (List.getElem?_eq_some_iff.1 hj).1
      have h4 := hcl i hlt
      have hj1 : j < (f i).1.length := by omega
      have h3 := (World.cells?_some h1).2.2 j (by omega)
      rw [add_add _ _ _ (hspot (by omega)), List.getElem?_eq_getElem hj1] at h3
      exact ⟨hj1, h3, h2.1.2 j _ x (by simp [hj1]) hj, h2.2 j _ (by simp [hj1])⟩
    refine ⟨[.sl size ((List.range len).map fun i => (f i).2) .unk], creps_one rfl ?_, _, rfl, fun c hc' => ?_, ?_⟩
    · refine .sl size _ .unk (some a) len cap a (fun k => (f (k / size)).1.getD (k % size) undef) (fun _ => rfl) (by simp) hl (fun e he' => ?_) trivial (fun i e j x hi hj => ?_) (fun i e j x hi hj => ?_)
      · obtain ⟨i, hi⟩ := List.mem_iff_getElem?.1 he'
        obtain ⟨hlt, rfl⟩ := hget i e hi
        exact (hcl i hlt).2
      · obtain ⟨hj1, h1, h2, h3⟩ := hcell i e j x hi hj
        have hjs : j < size := by obtain ⟨hlt, _⟩ := hget i e hi; have := hcl i hlt; omega
        simp only [(hdiv i j hjs).1, (hdiv i j hjs).2]
        rw [PH.all_some]
        refine ⟨?_, ?_⟩
        · rw [h1]; simp [List.getD, hj1]
        · simpa [List.getD, hj1] using h3
      · obtain ⟨hj1, h1, h2, h3⟩ := hcell i e j x hi hj
        have hjs : j < size := by obtain ⟨hlt, _⟩ := hget i e hi; have := hcl i hlt; omega
        simp only [(hdiv i j hjs).1, (hdiv i j hjs).2]
        simpa [List.getD, hj1] using h2
    · obtain ⟨i, hi⟩ := List.mem_iff_getElem?.1 hc'
      obtain ⟨hlt, rfl⟩ := hget i c hi
      exact (hf i hlt).2.2
    · have := hw ((elems.length + rest.length) * P.bytesOf e) (by simp [DataW.weights, ht])
      rw [hb] at this
      simp only [List.length_map, List.length_range]
      exact Nat.le_trans (Nat.mul_le_mul_right _ (by omega)) this
/-- Fields, one behind the other. -/
inductive OpF (P : Program) : List Field → Nat → (List LV → Prop) → Nat → Prop where
  | nil (off : Nat) : OpF P [] off QNil off
  | cons {f : Field} {fs : List Field} {off n m : Nat} {Q1 Q2 : List LV → Prop} (ho : f.offset = off) (hn : P.cellsOf f.type = n) (h : Opens P f.type Q1) (r : OpF P fs (off + n) Q2 m) : OpF P (f :: fs) off (QCons n Q1 Q2) m
theorem OpF.open_ : ∀ {fs : List Field} {off m : Nat} {Q : List LV → Prop}, OpF P fs off Q m → ∀ (H : Type) (enc : TypeId × Value → H) (w : World) (base : Nat) (spare : Nat → Bool) (held : Bool) (n : Nat) (cs : List Value),
    (∀ (i : Nat) (f : Field), fs[i]? = some f → ∃ y, DataW.trod enc P w base spare held n f.type ((cs.drop f.offset).take (P.cellsOf f.type)) = some y ∧ Weighs P f.type y.1) → m = cs.length →
    off ≤ m ∧ ∃ xs, CReps (PH.all w) (cs.drop off).toArray xs ∧ Q xs
  | _, off, _, _, .nil _, H, enc, w, base, spare, held, n, cs, _, hm => ⟨Nat.le_refl _, [], ⟨⟨by simp [hm], fun i c x h1 h2 => by simp at h2⟩, fun i c h1 => by simp [hm] at h1⟩, rfl⟩
  | _, _, _, _, .cons (f := f) (off := off) (n := k) ho hn h r, H, enc, w, base, spare, held, n, cs, hf, hm => by
    obtain ⟨hle, xs, h1, h2⟩ := r.open_ H enc w base spare held n cs (fun i g hg => hf (i + 1) g (by simpa using hg)) hm
    obtain ⟨y, hy, hyw⟩ := hf 0 f rfl
    rw [ho, hn] at hy
    obtain ⟨ys, h3, h4⟩ := h H enc w base spare held n _ y hy hyw
    have hk : ((cs.drop off).take k).length = k := by rw [List.length_take, List.length_drop]; omega
    refine ⟨by omega, ys ++ xs, ?_, ys, xs, rfl, by have := h3.1.1; simp only [List.size_toArray, hk] at this; omega, h4, h2⟩
    have := creps_append h3 h1
    rwa [show (cs.drop off).take k ++ cs.drop (off + k) = cs.drop off by rw [← List.drop_drop, List.take_append_drop]] at this
theorem Opens.struct {t : TypeId} {fs : Array Field} {Q : List LV → Prop} {m : Nat} (ht : P.underlying t = some (.struct fs)) (hm : P.cellsOf t = m) (h : OpF P fs.toList 0 Q m) : Opens P t Q := fun H enc w base spare held fuel cs x hx hw => by
  obtain ⟨xs, n, _, rfl, hl, hxl, hi⟩ := DataW.trod_struct ht hx
  have := h.open_ H enc w base spare held n cs (fun i f hf => by
    have hfi : fs[i]? = some f := by simpa using hf
    have h1 := hi i f hfi
    have hlt : i < xs.length := by rw [hxl]; exact (Array.getElem?_eq_some_iff.1 hfi).1
    rw [List.getElem?_eq_getElem hlt] at h1
    refine ⟨_, h1, fun k hk => hw k ?_⟩
    simp only [DataW.weights, ht]
    exact weightsEach_mem (i := i) (by simp [hf]) (by simp [hlt]) k hk) (by omega)
  simpa using this.2
/-- A composite that came in. -/
theorem reps_agg {ph : PH} {cs : Array Value} {xs : List LV} (h : CReps ph cs xs) : Rep ph (.agg cs) (.agg xs) := .agg _ _ h.1.1 h.2 h.1.2
theorem reps_nil {ph : PH} : Reps ph #[] [] := ⟨rfl, by simp⟩
theorem reps_cons {ph : PH} {v : Value} {x : LV} {vs : List Value} {xs : List LV} (h : Rep ph v x) (k : Reps ph vs.toArray xs) : Reps ph (v :: vs).toArray (x :: xs) := by
  obtain ⟨k1, k2⟩ := k
  refine ⟨by simp at k1 ⊢; omega, fun i c y h1 h2 => ?_⟩
  match i with
  | 0 => simp at h1 h2; subst h1; subst h2; exact h
  | i + 1 => simp at h1 h2; exact k2 i c y (by simpa using h1) h2
/-- Elements, decoded. -/
theorem decode {α : Type} (enc : α → List LV) (φ : α → Prop) : ∀ {es : List (List LV)}, (∀ c ∈ es, ∃ a, c = enc a ∧ φ a) → ∃ as : List α, es = as.map enc ∧ ∀ a ∈ as, φ a
  | [], _ => ⟨[], rfl, by simp⟩
  | c :: es, h => by
    obtain ⟨a, rfl, ha⟩ := h c (by simp)
    obtain ⟨as, rfl, has⟩ := decode enc φ (es := es) (fun c hc => h c (List.mem_cons_of_mem _ hc))
    exact ⟨a :: as, rfl, fun b hb => by rcases List.mem_cons.1 hb with rfl | hb; exact ha; exact has b hb⟩
theorem wf_i64 {n : Int} (h : (Lit.int .i64 n).wf = true) : -9223372036854775808 ≤ n ∧ n < 9223372036854775808 := by
  simp [Lit.wf, IntKind.min, IntKind.max, IntKind.signed, IntKind.bits] at h
  omega
theorem wf_u64 {n : Int} (h : (Lit.int .u64 n).wf = true) : 0 ≤ n ∧ n < 18446744073709551616 := by
  simp [Lit.wf, IntKind.min, IntKind.max, IntKind.signed, IntKind.bits] at h
  omega
theorem wf_u8 {n : Int} (h : (Lit.int .u8 n).wf = true) : 0 ≤ n ∧ n < 256 := by
  simp [Lit.wf, IntKind.min, IntKind.max, IntKind.signed, IntKind.bits] at h
  omega
theorem decode_ints {es : List (List LV)} (h : ∀ c ∈ es, QInt .i64 c) : ∃ l : List Int, es = intEls l ∧ ∀ x ∈ l, -9223372036854775808 ≤ x ∧ x < 9223372036854775808 := by
  obtain ⟨l, h1, h2⟩ := decode (fun x : Int => [.raw (.int .i64 x)]) (fun x => (Lit.int .i64 x).wf = true) h
  exact ⟨l, h1, fun x hx => wf_i64 (h2 x hx)⟩
theorem decode_bytes {es : List (List LV)} (h : ∀ c ∈ es, QInt .u8 c) : ∃ l : List UInt8, es = byteEls l := by
  obtain ⟨l, h1, h2⟩ := decode (fun b : UInt8 => [.raw (.int .u8 b.toNat)]) (fun _ => True) (es := es) (fun c hc => by
    obtain ⟨n, rfl, hn⟩ := h c hc
    have := wf_u8 hn
    refine ⟨UInt8.ofNat n.toNat, ?_, trivial⟩
    have e : ((UInt8.ofNat n.toNat).toNat : Int) = n := by
      rw [UInt8.toNat_ofNat']
      omega
    rw [e])
  exact ⟨l, h1⟩
end
end Go.L

set_option linter.unusedVariables false
set_option linter.unusedSimpArgs false
namespace Go.L
open Go.RowKit
def add32 (a b : Nat) : Nat := (a + b) % 4294967296
def xor32 (a b : Nat) : Nat := (a ^^^ b) % 4294967296
def and32 (a b : Nat) : Nat := (a &&& b) % 4294967296
def or32 (a b : Nat) : Nat := (a ||| b) % 4294967296
def not32 (a : Nat) : Nat := (4294967295 ^^^ a) % 4294967296
def shl32 (a k : Nat) : Nat := (a * 2 ^ k) % 4294967296
def shr32 (a k : Nat) : Nat := a / 2 ^ k
abbrev u32 (n : Nat) : LV := .raw (.int .u32 n)
abbrev u8 (n : Nat) : LV := .raw (.int .u8 n)
theorem wrapN32 (a : Nat) : IntKind.u32.wrap (a : Int) = ((a % 4294967296 : Nat) : Int) := by
  unfold IntKind.wrap
  simp [IntKind.bits, IntKind.signed]
theorem wrapN8 (a : Nat) : IntKind.u8.wrap (a : Int) = ((a % 256 : Nat) : Int) := by
  unfold IntKind.wrap
  simp [IntKind.bits, IntKind.signed]
theorem bits32 (op : BinOp) (a b : Nat) : bitsOf op .u32 a b = (((match op with | .and => BitVec.ofNat 32 a &&& BitVec.ofNat 32 b | .or => BitVec.ofNat 32 a ||| BitVec.ofNat 32 b | .xor => BitVec.ofNat 32 a ^^^ BitVec.ofNat 32 b | _ => BitVec.ofNat 32 a &&& ~~~BitVec.ofNat 32 b : BitVec 32).toNat : Nat) : Int) := by
  have e : ∀ n : Nat, (BitVec.ofInt IntKind.u32.bits (n : Int)) = BitVec.ofNat 32 n := fun n => BitVec.ofInt_natCast _ _
  unfold bitsOf
  simp only [e]
  rw [wrapN32]
  congr 1
  apply Nat.mod_eq_of_lt
  exact BitVec.isLt _
theorem bits_xor (a b : Nat) : bitsOf .xor .u32 a b = ((xor32 a b : Nat) : Int) := by
  rw [bits32]; simp [xor32, Nat.xor_mod_two_pow (n := 32)]
theorem bits_and (a b : Nat) : bitsOf .and .u32 a b = ((and32 a b : Nat) : Int) := by
  rw [bits32]; simp [and32, Nat.and_mod_two_pow (n := 32)]
theorem bits_or (a b : Nat) : bitsOf .or .u32 a b = ((or32 a b : Nat) : Int) := by
  rw [bits32]; simp [or32, Nat.or_mod_two_pow (n := 32)]
section
variable {P : Program} {env : List (Nat × LV)} {H : List Atom} {d : Option Tmp} {ty : TypeId} {pos : String} {af : Array Edge} {g : Option (Nat × Bool)}
theorem LU.add32 {x y : Operand} {t t' : TypeId} {a b : Nat} (hx : Is (ev env x) (u32 a)) (hy : Is (ev env y) (u32 b)) : LU P env H ⟨d, .binOp .add t x y t', ty, pos, af, g⟩ (u32 (Go.L.add32 a b)) := by
  have := LU.add (P := P) (env := env) (H := H) (d := d) (ty := ty) (pos := pos) (af := af) (g := g) (t := t) (t' := t') hx hy
  rwa [show ((a : Int) + (b : Int)) = ((a + b : Nat) : Int) from rfl, wrapN32] at this
theorem LU.xor32 {x y : Operand} {t t' : TypeId} {a b : Nat} (hx : Is (ev env x) (u32 a)) (hy : Is (ev env y) (u32 b)) : LU P env H ⟨d, .binOp .xor t x y t', ty, pos, af, g⟩ (u32 (Go.L.xor32 a b)) := by
  have := LU.xor (P := P) (env := env) (H := H) (d := d) (ty := ty) (pos := pos) (af := af) (g := g) (t := t) (t' := t') hx hy
  rwa [bits_xor] at this
theorem LU.and32 {x y : Operand} {t t' : TypeId} {a b : Nat} (hx : Is (ev env x) (u32 a)) (hy : Is (ev env y) (u32 b)) : LU P env H ⟨d, .binOp .and t x y t', ty, pos, af, g⟩ (u32 (Go.L.and32 a b)) := by
  have := LU.and (P := P) (env := env) (H := H) (d := d) (ty := ty) (pos := pos) (af := af) (g := g) (t := t) (t' := t') hx hy
  rwa [bits_and] at this
theorem LU.or32 {x y : Operand} {t t' : TypeId} {a b : Nat} (hx : Is (ev env x) (u32 a)) (hy : Is (ev env y) (u32 b)) : LU P env H ⟨d, .binOp .or t x y t', ty, pos, af, g⟩ (u32 (Go.L.or32 a b)) := by
  have := LU.or (P := P) (env := env) (H := H) (d := d) (ty := ty) (pos := pos) (af := af) (g := g) (t := t) (t' := t') hx hy
  rwa [bits_or] at this
theorem LU.not32 {x : Operand} {t : TypeId} {a : Nat} (hx : Is (ev env x) (u32 a)) : LU P env H ⟨d, .unOp .xor t x, ty, pos, af, g⟩ (u32 (Go.L.not32 a)) := by
  have := LU.compl (P := P) (env := env) (H := H) (d := d) (ty := ty) (pos := pos) (af := af) (g := g) (t := t) hx
  rw [show (if IntKind.u32.signed then -1 else IntKind.u32.max) = ((4294967295 : Nat) : Int) by decide, bits_xor] at this
  exact this
theorem LU.shl32 {x y : Operand} {t t' : TypeId} {k' : IntKind} {a : Nat} {b : Int} (hx : Is (ev env x) (u32 a)) (hy : Is (ev env y) (.raw (.int k' b))) (hb : 0 ≤ b ∧ b ≤ 32) : LU P env H ⟨d, .binOp .shl t x y t', ty, pos, af, g⟩ (u32 (Go.L.shl32 a b.toNat)) := by
  have := LU.shl (P := P) (env := env) (H := H) (d := d) (ty := ty) (pos := pos) (af := af) (g := g) (t := t) (t' := t') hx hy hb.1
  rw [show min b.toNat IntKind.u32.bits = b.toNat by have : IntKind.u32.bits = 32 := rfl; omega, show ((a : Int) * 2 ^ b.toNat) = ((a * 2 ^ b.toNat : Nat) : Int) by simp, wrapN32] at this
  exact this
theorem LU.shr32 {x y : Operand} {t t' : TypeId} {k' : IntKind} {a : Nat} {b : Int} (hx : Is (ev env x) (u32 a)) (hy : Is (ev env y) (.raw (.int k' b))) (hb : 0 ≤ b ∧ b ≤ 32) : LU P env H ⟨d, .binOp .shr t x y t', ty, pos, af, g⟩ (u32 (Go.L.shr32 a b.toNat)) := by
  have := LU.shr (P := P) (env := env) (H := H) (d := d) (ty := ty) (pos := pos) (af := af) (g := g) (t := t) (t' := t') hx hy hb.1
  rw [show min b.toNat IntKind.u32.bits = b.toNat by have : IntKind.u32.bits = 32 := rfl; omega, show ((a : Int).fdiv (2 ^ b.toNat)) = ((a / 2 ^ b.toNat : Nat) : Int) by
    rw [show (2 : Int) ^ b.toNat = ((2 ^ b.toNat : Nat) : Int) by simp, Int.fdiv_eq_ediv_of_nonneg _ (Int.natCast_nonneg _)]; simp] at this
  exact this
theorem LU.shrN {x y : Operand} {t t' : TypeId} {k k' : IntKind} {a n : Nat} {b : Int} (hx : Is (ev env x) (.raw (.int k a))) (hy : Is (ev env y) (.raw (.int k' b))) (h0 : 0 ≤ b) (hn : k.bits = n) (hb : b.toNat ≤ n) : LU P env H ⟨d, .binOp .shr t x y t', ty, pos, af, g⟩ (.raw (.int k ((a / 2 ^ b.toNat : Nat) : Int))) := by
  have := LU.shr (P := P) (env := env) (H := H) (d := d) (ty := ty) (pos := pos) (af := af) (g := g) (t := t) (t' := t') hx hy h0
  rw [show min b.toNat k.bits = b.toNat by omega, show ((a : Int).fdiv (2 ^ b.toNat)) = ((a / 2 ^ b.toNat : Nat) : Int) by
    rw [show (2 : Int) ^ b.toNat = ((2 ^ b.toNat : Nat) : Int) by simp, Int.fdiv_eq_ediv_of_nonneg _ (Int.natCast_nonneg _)]; simp] at this
  exact this
theorem byteEls_D {l : List UInt8} {i : Int} (o : Nat) (ho : i = o) (h : o < l.length) : (byteEls l)[i.toNat]? = some [u8 (l.getD o 0).toNat] := by
  subst ho
  simp [byteEls, h]
theorem LU.of8 {x : Operand} {s t : TypeId} {ds : TypeDesc} {k' : IntKind} {a : Nat} (hs : P.underlying s = some ds) (ht : P.underlying t = some (.int .u32)) (hx : Is (ev env x) (.raw (.int k' a))) : LU P env H ⟨d, .convert s t x, ty, pos, af, g⟩ (u32 (a % 4294967296)) := by
  have := LU.conv (P := P) (env := env) (H := H) (d := d) (ty := ty) (pos := pos) (af := af) (g := g) hs ht hx
  rwa [wrapN32] at this
theorem LU.to8 {x : Operand} {s t : TypeId} {ds : TypeDesc} {k' : IntKind} {a : Nat} (hs : P.underlying s = some ds) (ht : P.underlying t = some (.int .u8)) (hx : Is (ev env x) (.raw (.int k' a))) : LU P env H ⟨d, .convert s t x, ty, pos, af, g⟩ (u8 (a % 256)) := by
  have := LU.conv (P := P) (env := env) (H := H) (d := d) (ty := ty) (pos := pos) (af := af) (g := g) hs ht hx
  rwa [wrapN8] at this
end
theorem map_at {f : Nat → LV} {l : List Nat} {o : Nat} {i : Int} (ho : o = i.toNat) (h0 : 0 ≤ i) (h : i.toNat < l.length) : (l.map f)[o]? = some (f (l.getD i.toNat 0)) := by
  subst ho
  simp [h]
theorem put_map {f : Nat → LV} {l : List Nat} {o : Nat} {i : Int} {v : Nat} (ho : o = i.toNat) (h : i.toNat < l.length) : putAt (l.map f) o [f v] = (l.set i.toNat v).map f := by
  subst ho
  rw [putAt_one _ _ _ (by simpa using h)]
  simp [List.map_set]
theorem map_atN {f : Nat → LV} {l : List Nat} {o : Nat} (o' : Nat) (ho : o = o') (h : o' < l.length) : (l.map f)[o]? = some (f (l.getD o' 0)) := by
  subst ho
  simp [h]
theorem putAt_all {xs ys : List LV} (h : ys.length = xs.length) : putAt xs 0 ys = ys := by simp [putAt, h]
/-- What was stored in a row of words. -/
theorem X.wput {P : Program} {n : NN} {env : List (Nat × LV)} {c : Code} {Q : Exit → LS → Prop} {b : Nat} {t : TypeId} {f : Nat → LV} {l l' : List Nat} {o o' v : Nat} {R : List Atom} (hset : l.set o' v = l') (ho : o = o') (hlt : o' < l.length) (h : LW P c ⟨n, env, .cells b t (l'.map f) :: R⟩ Q) : LW P c ⟨n, env, .cells b t (putAt (l.map f) o [f v]) :: R⟩ Q := by
  subst ho
  rw [putAt_one _ _ _ (by simpa using hlt), ← List.map_set, hset]
  exact h
theorem X.wcells {P : Program} {n : NN} {env : List (Nat × LV)} {c : Code} {Q : Exit → LS → Prop} {b : Nat} {t : TypeId} {xs ys : List LV} {R : List Atom} (he : xs = ys) (h : LW P c ⟨n, env, .cells b t ys :: R⟩ Q) : LW P c ⟨n, env, .cells b t xs :: R⟩ Q := he ▸ h
/-- T{..}, an array, all of whose elements, of one cell each, are given. -/
def seqP : Nat → List LV → List (Nat × List LV)
  | _, [] => []
  | i, v :: vs => (i, [v]) :: seqP (i + 1) vs
theorem laid_seq : ∀ (vs : List LV) (i : Nat) (xs : List LV), i + vs.length ≤ xs.length → laid (fun i => some (i * 1, 1)) xs (seqP i vs) = some (xs.take i ++ vs ++ xs.drop (i + vs.length))
  | [], i, xs, h => by simp [seqP, laid]
  | v :: vs, i, xs, h => by
    have hl : i < xs.length := by simp at h; omega
    have hb : (Nat.beq [v].length 1 && Nat.ble (i * 1 + [v].length) xs.length) = true := by simp [Nat.ble_eq]; omega
    rw [seqP, laid]
    simp only [hb, cond_true]
    have hp : (putAt xs (i * 1) [v]) = xs.set i v := by rw [Nat.mul_one]; exact putAt_one _ _ _ hl
    rw [hp, laid_seq vs (i + 1) (xs.set i v) (by simp at h ⊢; omega)]
    have ht : (xs.take i).length = i := by simp; omega
    rw [List.set_eq_take_append_cons_drop, if_pos hl]
    have e1 : (xs.take i ++ v :: xs.drop (i + 1)).take (i + 1) = xs.take i ++ [v] := by
      rw [List.take_append, List.take_of_length_le (by omega), ht, show i + 1 - i = 1 by omega]
      rfl
    have e2 : (xs.take i ++ v :: xs.drop (i + 1)).drop (i + 1 + vs.length) = xs.drop (i + (v :: vs).length) := by
      rw [List.drop_append, List.drop_eq_nil_of_le (by omega), ht, show i + 1 + vs.length - i = vs.length + 1 by omega, List.nil_append, List.drop_succ_cons, List.drop_drop]
      congr 1
      simp
      omega
    rw [e1, e2]
    simp
theorem LU.buildA1 {P : Program} {env : List (Nat × LV)} {H : List Atom} {d : Option Tmp} {ty : TypeId} {pos : String} {af : Array Edge} {g : Option (Nat × Bool)} {t e : TypeId} {n : Nat} {ps : Array (Nat × Operand)} {vs : List LV} {z : Value} (ht : P.underlying t = some (.array n e)) (hs : ∀ w, (sizeOf e).run P w = .ok 1 w) (hz : ∀ w, (zeroValue t).run P w = .ok z w) (hz1 : ∀ (i : Nat) (c : Value), z.cells[i]? = some c → c.oneCell' = true)
    (hp : Parts env ps.toList (seqP 0 vs)) (hn : vs.length = z.cells.size) : LU P env H ⟨d, .build t ps, ty, pos, af, g⟩ (.agg vs) := LU.buildA ht hs hz hz1 hp (by
  rw [laid_seq vs 0 _ (by simp [raws, hn])]
  simp [raws, hn])
theorem X.ncells {α : Type} {m n : NN} {e : List (Nat × LV)} {mod : α → List (Nat × LV)} {live : List Nat} {e0 : List (Nat × LV)} {hp : α → List Atom} {φ : α → Prop} {μ : α → Nat} {p : α} {b : Nat} {t : TypeId} {xs ys : List LV} {R : List Atom} (he : xs = ys) (h : Next m mod live e0 hp φ μ p ⟨n, e, .cells b t ys :: R⟩) : Next m mod live e0 hp φ μ p ⟨n, e, .cells b t xs :: R⟩ := he ▸ h
theorem creps_is {ph : PH} {cs : Array Value} {xs ys : List LV} (hl : xs.length = ys.length) (h : ∀ (i : Nat) (x y : LV), xs[i]? = some x → ys[i]? = some y → Is x y) (c : CReps ph cs xs) : CReps ph cs ys := ⟨⟨c.1.1.trans hl, fun i v y h1 h2 => by
  have hlt : i < xs.length := hl ▸ (List.getElem?_eq_some_iff.1 h2).1
  have hx := List.getElem?_eq_getElem hlt
  exact h i _ y hx h2 ph v (c.1.2 i v _ h1 hx)⟩, c.2⟩
/-- A cell, told otherwise. -/
theorem HSub.cell {g : Nat} {t : TypeId} {xs : List LV} {H : List Atom} (i : Nat) {x y : LV} (hx : xs[i]? = some x) (h : Is x y) : HSub (.cells g t xs :: H) (.cells g t (xs.set i y) :: H) := HSub.of fun ph w F ⟨F1, F2, ⟨h1, cs, h2, h3⟩, r⟩ => ⟨F, ⟨F1, F2, ⟨h1, cs, h2, creps_is (by simp) (fun j a b ha hb => by
  rw [List.getElem?_set] at hb
  split at hb
  · rename_i hij
    subst hij
    split at hb
    · rw [hx] at ha
      cases ha
      cases hb
      exact h
    · cases hb
  · rw [ha] at hb
    cases hb
    exact Is.rfl') h3⟩, r⟩, fun _ _ h => h⟩
/-- x[lo:]: its room stays its own. -/
theorem LU.sliceT {P : Program} {env : List (Nat × LV)} {H : List Atom} {d : Option Tmp} {ty : TypeId} {pos : String} {af : Array Edge} {g : Option (Nat × Bool)} {x lo : Operand} {t e : TypeId} {l : List UInt8} {k : Cap} {ki : IntKind} {n : Nat} (hs : ∀ w, (sizeOf e).run P w = .ok 1 w) (ht : P.underlying t = some (.slice e)) (hx : Is (ev env x) (Bytes l k)) (hl : Is (ev env lo) (.raw (.int ki n))) (h1 : n ≤ l.length) :
    LU P env H ⟨d, .slice t x (some lo) none none, ty, pos, af, g⟩ (Bytes (l.drop n) k) := by
  have := LU.slice (P := P) (H := H) (d := d) (ty := ty) (pos := pos) (af := af) (g := g) (lo := some lo) (hi := none) (l := some (n : Int)) (h := none) hs (by omega) ht hx ⟨_, hl⟩ trivial (by simp) (by simpa [byteEls_length] using h1) (by simp) k (.inr ⟨rfl, by simp⟩)
  simp only [Option.getD_some, Option.getD_none, Int.toNat_natCast, byteEls_length, byteEls_drop] at this
  rw [byteEls_take, List.take_of_length_le (by simp)] at this
  exact this
end Go.L

set_option linter.unusedVariables false
set_option linter.unusedSimpArgs false
namespace Go.L
open Go.RowKit
section
variable {P : Program} {st : LS} {K : LS → Prop} {ty : TypeId} {pos : String} {af : Array Edge} {g : Option (Nat × Bool)} {d : Nat}
theorem LO.litO {t e : TypeId} {n size : Nat} {ps : Array (Nat × Operand)} {qs : List (Nat × List LV)} {z : Value} {ys : List LV} (hd : Nat.blt d st.n.k = true) (ht : P.underlying t = some (.slice e)) (hs : ∀ w, (sizeOf e).run P w = .ok size w) (hz : ∀ w, (zeroValue e).run P w = .ok z w) (hz1 : ∀ (i : Nat) (c : Value), z.cells[i]? = some c → c.oneCell' = true) (hzs : z.cells.size = size) (hs0 : 0 < size) (hn : n * size ≤ 16777216)
    (hp : Parts st.env ps.toList qs) (hl' : laid (fun i => some (i * size, size)) ((List.replicate n (raws z.cells.toList)).flatten) qs = some ys)
    (h : ∀ b, K ⟨st.n, (d, .raw (.slice (some ⟨b, 0, none⟩) n n)) :: st.env, .cells b e ys :: st.heap⟩) : LO P ⟨some d, .buildSlice t n ps, ty, pos, af, g⟩ st K := .of_run hd fun w0 ph a w r => by
  obtain ⟨cs', hrun, hc, hsz⟩ := lit_run (d := some d) (ty := ty) (pos := pos) (af := af) (g := g) ht hs hz hz1 hzs hs0 hn hp hl' (fun x _ => r.tmps.eval x) w
  exact ⟨_, _, _, ph, _, hrun, PH.le.refl _, r.inv.block e hc, .raw _, h _⟩
theorem shape_row {w : World} {b : Nat} {cs : Array Value} {te : TypeId} (h : w.heap[b]? = some (.cells cs te (0, 0))) : w.shape? b = some (te, cs.size) := by
  unfold World.shape?
  rw [h]
theorem run_mark {w : World} {t e te : TypeId} {b n c : Nat} {cs : Array Value} (ht : P.underlying t = some (.slice e)) (he : P.underlying e = some (.int .u8)) (h : w.heap[b]? = some (.cells cs te (0, 0))) :
    (convert t t (.slice (some ⟨b, 0, none⟩) n c)).run P w = .ok (.slice (some ⟨b, 0, none⟩) n c) (w.freeze ⟨b, cs.size, none⟩ 1) := by
  simp [convert, run_underlying ht, run_underlying he, markStringish, shape_row h]
theorem freeze_at {w : World} {b k : Nat} {cs : Array Value} {te : TypeId} (h : w.heap[b]? = some (.cells cs te (0, 0))) : (w.freeze ⟨b, k, none⟩ 1).heap[b]? = some (.cells cs te (k, k + 1)) := by
  unfold World.freeze
  rw [if_neg (by decide)]
  simp [Array.getElem?_modify, h]
theorem freeze_other {w : World} {b k j : Nat} (h : j ≠ b) : (w.freeze ⟨b, k, none⟩ 1).heap[j]? = w.heap[j]? := by
  unfold World.freeze
  rw [if_neg (by decide)]
  simp [Array.getElem?_modify, Ne.symm h]
theorem freeze_size {w : World} {b k : Nat} : (w.freeze ⟨b, k, none⟩ 1).heap.size = w.heap.size := by
  unfold World.freeze
  rw [if_neg (by decide)]
  simp
theorem Inv.mark {H : List Atom} {w0 : Base} {ph : PH} {w : World} {b : Nat} {t : TypeId} {xs : List LV} (h : Inv w0 ph w (.cells b t xs :: H)) : ∃ cs ph', w.heap[b]? = some (.cells cs t (0, 0)) ∧ PH.le ph ph' ∧ Inv w0 ph' (w.freeze ⟨b, cs.size, none⟩ 1) H ∧ CReps ph' cs xs ∧ cs.size = xs.length ∧ ∀ i, i < cs.size → ph' ⟨b, i, none⟩ = cs[i]? := by
  obtain ⟨F, hF, cs, hh, hc⟩ := h.atom
  have hle : PH.le ph (PH.ext ph b 0 cs.size cs) := PH.le_ext fun i _ hi => by
    obtain ⟨_, _, _, F', ⟨F1, F2, h1, h2, h3, h4⟩, hF'⟩ := h
    exact (hF' b i ((h3 b i).2 (.inl ((h1.1 b i).2 rfl)))).2 ⟨b, i, none⟩ rfl rfl
  refine ⟨cs, PH.ext ph b 0 cs.size cs, hh, hle, ?_, hc.mono hle, hc.1.1, fun i hi => PH.ext_in ⟨Nat.zero_le _, hi⟩⟩
  have := Inv.upd (H1 := [.cells b t xs]) (H2 := []) (R := H) (w' := w.freeze ⟨b, cs.size, none⟩ 1) h hle (fun G ⟨F1, F2, h1, h2, h3, h4⟩ hn => ⟨Chg.blocks rfl rfl rfl (by rw [freeze_size]; exact Nat.le_refl _) (fun b' => b' = b) (fun b' hb o => (h3 b' o).2 (.inl ((h1.1 b' o).2 hb))) (fun b' _ hb => freeze_other hb), fun _ _ => False, fun _ _ h => h, fun _ _ h => h.elim, fun a u ha => by
    rcases PH.ext_cases ha with ⟨e, h5, h6, h7⟩ | h5
    · refine .inr ⟨⟨?_, hc.2 _ _ h7⟩, fun h => h, .inl ((h3 _ _).2 (.inl ((h1.1 _ _).2 (by rw [e]))))⟩
      rw [e, cell_of_row _ b a.off cs t _ (freeze_at hh)]
      exact h7
    · exact .inl h5⟩)
  exact this
/-- []byte of a constant: the literal's row, from now on by its content. -/
theorem LO.mark {x : Operand} {t e te : TypeId} {b n c size : Nat} {xs : List LV} {es : List (List LV)} (k : Nat) (hk : st.heap[k]? = some (.cells b te xs)) (hd : Nat.blt d st.n.k = true) (ht : P.underlying t = some (.slice e)) (he : P.underlying e = some (.int .u8)) (hx : Is (ev st.env x) (.raw (.slice (some ⟨b, 0, none⟩) n c))) (hs : ∀ e ∈ es, e.length = size) (hn : es.length = n) (hfit : n * size ≤ xs.length) (hes : es.flatten = xs.take (n * size)) (hnc : n ≤ c)
    (h : K ⟨st.n, (d, .sl size es .unk) :: st.env, st.heap.eraseIdx k⟩) : LO P ⟨some d, .convert t t x, ty, pos, af, g⟩ st K := .of_run hd fun w0 ph a w r => by
  have hinv := r.inv.front k
  unfold L.front at hinv
  rw [hk] at hinv
  obtain ⟨cs, ph', hh, hle, hi, hc, hsz, hp⟩ := hinv.mark
  have h1 := (hx _ _ (r.tmps.eval x)).rawE
  exact ⟨_, .slice (some ⟨b, 0, none⟩) n c, _, ph', _, by simp [execOp, h1, run_mark ht he hh], hle, hi, freeze_rep (off := 0) hc hp hs hn (by omega) (by simpa using hes) hnc, h⟩
theorem X.litO {t e : TypeId} {m size : Nat} {nn : NN} {env : List (Nat × LV)} {H : List Atom} {ps : Array (Nat × Operand)} {es : List (List LV)} {z : Value} (hd : Nat.blt d nn.k = true) (ht : P.underlying t = some (.slice e)) (hs : ∀ w, (sizeOf e).run P w = .ok size w) (hz : ∀ w, (zeroValue e).run P w = .ok z w) (hz1 : ∀ (i : Nat) (c : Value), z.cells[i]? = some c → c.oneCell' = true) (hzs : z.cells.size = size) (hs0 : 0 < size) (hn : m * size ≤ 16777216)
    (hp : Elems env 0 ps.toList es) (hes : ∀ e ∈ es, e.length = size) (hen : es.length = m)
    (h : ∀ b, K ⟨nn, (d, .raw (.slice (some ⟨b, 0, none⟩) m m)) :: env, .cells b e es.flatten :: H⟩) : LO P ⟨some d, .buildSlice t m ps, ty, pos, af, g⟩ ⟨nn, env, H⟩ K := by
  have hzl : ((List.replicate m (raws z.cells.toList)).flatten).length = m * size := by simp [raws, hzs]
  obtain ⟨qs, h1, h2⟩ := Elems.laid (pre := []) (rest := (List.replicate m (raws z.cells.toList)).flatten) hp hes (by simp) (by rw [hzl, hen])
  refine LO.litO (st := ⟨nn, env, H⟩) hd ht hs hz hz1 hzs hs0 hn h1 h2 fun b => ?_
  exact h b
theorem X.mark {x : Operand} {t e te : TypeId} {b n c size : Nat} {nn : NN} {env : List (Nat × LV)} {H : List Atom} {es : List (List LV)} (k : Nat) (hk : H[k]? = some (.cells b te es.flatten)) (hd : Nat.blt d nn.k = true) (ht : P.underlying t = some (.slice e)) (he : P.underlying e = some (.int .u8)) (hx : Is (ev env x) (.raw (.slice (some ⟨b, 0, none⟩) n c))) (hs : ∀ e ∈ es, e.length = size) (hn : es.length = n) (hnc : n ≤ c)
    (h : K ⟨nn, (d, .sl size es .unk) :: env, H.eraseIdx k⟩) : LO P ⟨some d, .convert t t x, ty, pos, af, g⟩ ⟨nn, env, H⟩ K := by
  have hl := flatten_len hs
  exact LO.mark (st := ⟨nn, env, H⟩) k hk hd ht he hx hs hn (by rw [hl, hn]; exact Nat.le_refl _) (by rw [List.take_of_length_le (by rw [hl, hn]; exact Nat.le_refl _)]) hnc h
end
end Go.L

set_option linter.unusedVariables false
set_option linter.unusedSimpArgs false
namespace Go.L
open Go.RowKit
theorem Inv.startK {w : World} {g : Nat} {xs : List LV} (h : Rep (PH.all w) (.pointer (some ⟨g, 0, none⟩)) (.pin xs)) : Inv ⟨w, none⟩ (PH.all w) w [.known g xs] :=
  ⟨(Inv.start w).below, (Inv.start w).cell, (Inv.start w).one, fun _ _ => False, ⟨fun _ _ => False, fun _ _ => False, ⟨fun _ _ h => h, h⟩, fun _ _ h => h, fun b o => by simp, fun _ _ h => h.elim⟩, fun _ _ h => h.elim⟩
theorem LCalls.runK {P : Program} {f : FuncId} {args : List LV} {b : Value} {g : Nat} {xs : List LV} {post : LV → List Atom → Prop} (h : LCalls P f args [.known g xs] post) (hq : ∀ r H', post r H' → r = .raw b) {w : World} {vs : Array Value} (hr : Reps (PH.all w) vs args) (hk : Rep (PH.all w) (.pointer (some ⟨g, 0, none⟩)) (.pin xs)) : Calls P f vs w fun e w' => e = .returned b ∧ Below w.heap.size w w' :=
  (h [] ⟨w, none⟩ (PH.all w) w vs (Inv.startK hk) hr).mono fun e w' ⟨v, ph', r, H', he, hle, hi, hv, hp⟩ => by
    have := hq _ _ hp
    subst this
    exact ⟨by rw [he, hv.rawE], hi.below⟩
theorem known_of {w : World} {g : Nat} {xs : List LV} (h : ∀ j x, xs[j]? = some x → ∃ u, w.cell? ⟨g, j, none⟩ = some u ∧ u.oneCell' = true ∧ Rep (PH.all w) u x) : Rep (PH.all w) (.pointer (some ⟨g, 0, none⟩)) (.pin xs) := by
  classical
  refine .pin xs ⟨g, 0, none⟩ (fun j => if hj : ∃ x, xs[j]? = some x then (h j _ hj.choose_spec).choose else undef) (fun j x hx => ?_) (fun j x hx => ?_)
  · have hj : ∃ x, xs[j]? = some x := ⟨x, hx⟩
    simp only [dif_pos hj]
    have := (h j _ hj.choose_spec).choose_spec
    rw [add_lit, Nat.zero_add]
    exact PH.all_some.2 ⟨this.1, this.2.1⟩
  · have hj : ∃ x, xs[j]? = some x := ⟨x, hx⟩
    simp only [dif_pos hj]
    have e : hj.choose = x := Option.some.inj (hj.choose_spec.symm.trans hx)
    have := (h j _ hj.choose_spec).choose_spec
    exact e ▸ this.2.2
section
variable {P : Program}
theorem laid_ints {H : Type} {enc : TypeId × Value → H} {w : World} {base : Nat} {sp : Nat → Bool} {held : Bool} {fuel : Nat} {t e : TypeId} {n : Nat} {k : IntKind} {cs : List Value} {l : List Nat} {q : List MemPlace} (ht : P.underlying t = some (.array n e)) (he : P.underlying e = some (.int k)) (hc : P.cellsOf e = 1) (hct : P.cellsOf t = n)
    (h : DataW.trod enc P w base sp held fuel t cs = some (.agg (l.map fun (m : Nat) => .lit (.int k m)), q)) : cs = l.map fun (m : Nat) => Value.int k m := by
  obtain ⟨xs, m, _, hx, hl, hxl, hel⟩ := DataW.trod_array ht h
  simp only [Prod.mk.injEq, DataW.agg.injEq] at hx
  have hll : l.length = n := by have := congrArg List.length hx.1; simp at this; omega
  refine List.ext_getElem? fun i => ?_
  by_cases hi : i < n
  · have h1 := hel i hi
    rw [hc, Nat.mul_one] at h1
    cases hy : xs[i]? with
    | none => rw [List.getElem?_eq_none_iff] at hy; omega
    | some y =>
      rw [hy] at h1
      obtain ⟨a, e1, e2, _⟩ := DataW.trod_int he h1
      have h2 := congrArg (fun z => z[i]?) hx.1
      simp only [List.getElem?_map, hy, Option.map_some] at h2
      have h3 : cs[i]? = some (.int k a) := by
        have := congrArg (fun z => z[0]?) e1
        simpa [List.getElem?_take, List.getElem?_drop] using this
      rw [h3, List.getElem?_map]
      cases hli : l[i]? with
      | none => rw [hli] at h2; simp at h2
      | some b =>
        rw [hli] at h2
        simp only [Option.map_some, Option.some.injEq, e2, DataW.lit.injEq, Lit.int.injEq, true_and] at h2
        rw [Option.map_some, h2]
  · rw [List.getElem?_eq_none (by omega), List.getElem?_eq_none (by simp; omega)]
theorem known_ints {w : World} {g : Nat} {k : IntKind} {l : List Nat} {cs : Array Value} (hcs : cs.toList = l.map fun (m : Nat) => Value.int k m) (h : ∀ i, w.cell? ⟨g, i, none⟩ = cs[i]?) : Rep (PH.all w) (.pointer (some ⟨g, 0, none⟩)) (.pin (l.map fun (m : Nat) => .raw (.int k m))) :=
  known_of fun j x hx => by
    rw [List.getElem?_map] at hx
    cases hl : l[j]? with
    | none => rw [hl] at hx; cases hx
    | some m =>
      rw [hl] at hx
      obtain rfl : LV.raw (.int k m) = x := by simpa using hx
      refine ⟨.int k m, ?_, rfl, .raw _⟩
      rw [h, ← Array.getElem?_toList, hcs, List.getElem?_map, hl]
      rfl
def QArr (n size : Nat) (Q : List LV → Prop) (xs : List LV) : Prop := ∃ es : List (List LV), xs = es.flatten ∧ es.length = n ∧ ∀ c ∈ es, c.length = size ∧ Q c
end
end Go.L

set_option linter.unusedVariables false
set_option linter.unusedSimpArgs false
namespace Go.L
open Go.RowKit
section
variable {P : Program} {env : List (Nat × LV)} {H : List Atom} {d : Option Tmp} {ty : TypeId} {pos : String} {af : Array Edge} {g : Option (Nat × Bool)}
theorem all_range_nat : ∀ (xs ys : List Nat), xs.length = ys.length → ((List.range xs.length).all fun i => xs.getD i 0 == ys.getD i 0) = decide (xs = ys)
  | [], [], _ => by simp
  | x :: xs, y :: ys, h => by
    have ih := all_range_nat xs ys (by simpa using h)
    rw [List.length_cons, List.range_succ_eq_map, List.all_cons, List.all_map]
    simp only [List.getD_cons_zero, Function.comp_def, List.getD_cons_succ, ih]
    by_cases h1 : x = y <;> simp [h1]
  | [], _ :: _, h => by simp at h
  | _ :: _, [], h => by simp at h
theorem EqR.arr {t e : TypeId} {n : Nat} {k : IntKind} (ht : P.underlying t = some (.array n e)) (he : P.underlying e = some (.int k)) (hsz : ∀ w, (sizeOf e).run P w = .ok 1 w) (xs ys : List Nat) (hx : xs.length = n) (hy : ys.length = n) :
    EqR P 2 t (.agg (xs.map fun m => Value.int k (m : Nat)).toArray) (.agg (ys.map fun m => Value.int k (m : Nat)).toArray) (decide (xs = ys)) := fun d w => by
  rw [← all_range_nat xs ys (hx.trans hy.symm), hx, List.range_eq_range', Op.equalIn]
  simp only [Sem.run_bind, run_underlying ht, Result.andThen_ok, hsz, Std.Legacy.Range.forIn_eq_forIn_range', Std.Legacy.Range.size, Nat.sub_zero, Nat.add_sub_cancel, Nat.div_one]
  have hl : ∀ i ∈ List.range' 0 n 1, i < n := fun i hi => by simpa using (List.mem_range'_1.1 hi).2
  generalize List.range' 0 n 1 = l at hl ⊢
  induction l with
  | nil => simp
  | cons i l ih =>
    have hi : i < n := hl i (by simp)
    have px : (part e (xs.map fun m => Value.int k (m : Nat)).toArray (i * 1)).run P w = .ok (.int k (xs.getD i 0 : Nat)) w := by
      simp [part, isAgg, run_underlying he, List.getD, List.getElem?_eq_getElem (show i < xs.length by omega)]
    have py : (part e (ys.map fun m => Value.int k (m : Nat)).toArray (i * 1)).run P w = .ok (.int k (ys.getD i 0 : Nat)) w := by
      simp [part, isAgg, run_underlying he, List.getD, List.getElem?_eq_getElem (show i < ys.length by omega)]
    have pe : (Op.equalIn (d + 1) e (.int k (xs.getD i 0 : Nat)) (.int k (ys.getD i 0 : Nat))).run P w = .ok (xs.getD i 0 == ys.getD i 0) w := by
      rw [run_equalIn_int w d e k k _ _ he]
      congr 1
      rw [Bool.eq_iff_iff]
      simp
      omega
    simp only [List.forIn_cons, Sem.run_bind, px, py, pe, Result.andThen_ok, List.all_cons]
    cases hb : (xs.getD i 0 == ys.getD i 0)
    · simp
    · simp only [Bool.not_true, Bool.false_eq_true, if_false, Sem.run_pure, Result.andThen_ok, Bool.true_and]
      exact ih fun j hj => hl j (by simp [hj])
theorem RawL.map {k : IntKind} : ∀ (l : List Nat), RawL (l.map fun m => LV.raw (.int k (m : Nat))) (l.map fun m => Value.int k (m : Nat))
  | [] => .nil
  | x :: xs => .cons (RawL.map xs)
theorem LU.eqlArr {x y : Operand} {t t' e : TypeId} {n : Nat} {k : IntKind} {xs ys : List Nat} (ht : P.underlying t = some (.array n e)) (he : P.underlying e = some (.int k)) (hsz : ∀ w, (sizeOf e).run P w = .ok 1 w) (hg : P.eqGuardType P.depth t = false)
    (hx : Is (ev env x) (.agg (xs.map fun m => LV.raw (.int k (m : Nat))))) (hy : Is (ev env y) (.agg (ys.map fun m => LV.raw (.int k (m : Nat))))) (lx : xs.length = n) (ly : ys.length = n) :
    LU P env H ⟨d, .binOp .eql t x y t', ty, pos, af, g⟩ (.raw (.bool (decide (xs = ys)))) := LU.eqlA hx hy (RawL.map _) (RawL.map _) hg (by decide) (EqR.arr ht he hsz xs ys lx ly)
theorem LU.neqArr {x y : Operand} {t t' e : TypeId} {n : Nat} {k : IntKind} {xs ys : List Nat} (ht : P.underlying t = some (.array n e)) (he : P.underlying e = some (.int k)) (hsz : ∀ w, (sizeOf e).run P w = .ok 1 w) (hg : P.eqGuardType P.depth t = false)
    (hx : Is (ev env x) (.agg (xs.map fun m => LV.raw (.int k (m : Nat))))) (hy : Is (ev env y) (.agg (ys.map fun m => LV.raw (.int k (m : Nat))))) (lx : xs.length = n) (ly : ys.length = n) :
    LU P env H ⟨d, .binOp .neq t x y t', ty, pos, af, g⟩ (.raw (.bool (!decide (xs = ys)))) := LU.neqA hx hy (RawL.map _) (RawL.map _) hg (by decide) (EqR.arr ht he hsz xs ys lx ly)
def xor8 (a b : Nat) : Nat := (a ^^^ b) % 256
def and8 (a b : Nat) : Nat := (a &&& b) % 256
def or8 (a b : Nat) : Nat := (a ||| b) % 256
theorem bits8 (op : BinOp) (a b : Nat) : bitsOf op .u8 a b = (((match op with | .and => BitVec.ofNat 8 a &&& BitVec.ofNat 8 b | .or => BitVec.ofNat 8 a ||| BitVec.ofNat 8 b | .xor => BitVec.ofNat 8 a ^^^ BitVec.ofNat 8 b | _ => BitVec.ofNat 8 a &&& ~~~BitVec.ofNat 8 b : BitVec 8).toNat : Nat) : Int) := by
  have e : ∀ n : Nat, (BitVec.ofInt IntKind.u8.bits (n : Int)) = BitVec.ofNat 8 n := fun n => BitVec.ofInt_natCast _ _
  unfold bitsOf
  simp only [e]
  rw [wrapN8]
  congr 1
  apply Nat.mod_eq_of_lt
  exact BitVec.isLt _
theorem bits8_xor (a b : Nat) : bitsOf .xor .u8 a b = ((xor8 a b : Nat) : Int) := by
  rw [bits8]; simp [xor8, Nat.xor_mod_two_pow (n := 8)]
theorem bits8_and (a b : Nat) : bitsOf .and .u8 a b = ((and8 a b : Nat) : Int) := by
  rw [bits8]; simp [and8, Nat.and_mod_two_pow (n := 8)]
theorem bits8_or (a b : Nat) : bitsOf .or .u8 a b = ((or8 a b : Nat) : Int) := by
  rw [bits8]; simp [or8, Nat.or_mod_two_pow (n := 8)]
theorem LU.xor8 {x y : Operand} {t t' : TypeId} {a b : Nat} (hx : Is (ev env x) (u8 a)) (hy : Is (ev env y) (u8 b)) : LU P env H ⟨d, .binOp .xor t x y t', ty, pos, af, g⟩ (u8 (Go.L.xor8 a b)) := by
  have := LU.xor (P := P) (env := env) (H := H) (d := d) (ty := ty) (pos := pos) (af := af) (g := g) (t := t) (t' := t') hx hy
  rwa [bits8_xor] at this
theorem LU.and8 {x y : Operand} {t t' : TypeId} {a b : Nat} (hx : Is (ev env x) (u8 a)) (hy : Is (ev env y) (u8 b)) : LU P env H ⟨d, .binOp .and t x y t', ty, pos, af, g⟩ (u8 (Go.L.and8 a b)) := by
  have := LU.and (P := P) (env := env) (H := H) (d := d) (ty := ty) (pos := pos) (af := af) (g := g) (t := t) (t' := t') hx hy
  rwa [bits8_and] at this
theorem LU.or8 {x y : Operand} {t t' : TypeId} {a b : Nat} (hx : Is (ev env x) (u8 a)) (hy : Is (ev env y) (u8 b)) : LU P env H ⟨d, .binOp .or t x y t', ty, pos, af, g⟩ (u8 (Go.L.or8 a b)) := by
  have := LU.or (P := P) (env := env) (H := H) (d := d) (ty := ty) (pos := pos) (af := af) (g := g) (t := t) (t' := t') hx hy
  rwa [bits8_or] at this
end
theorem xor8_lt (a b : Nat) : xor8 a b < 256 := Nat.mod_lt _ (by decide)
theorem or8_lt (a b : Nat) : or8 a b < 256 := Nat.mod_lt _ (by decide)
theorem and8_lt (a b : Nat) : and8 a b < 256 := Nat.mod_lt _ (by decide)
theorem xor8_zero {a b : Nat} (ha : a < 256) (hb : b < 256) : xor8 a b = 0 ↔ a = b := by
  unfold xor8
  rw [Nat.mod_eq_of_lt (Nat.xor_lt_two_pow (n := 8) ha hb)]
  constructor
  · intro h
    have h1 : (a ^^^ b) ^^^ b = a := by rw [Nat.xor_assoc, Nat.xor_self, Nat.xor_zero]
    rw [h, Nat.zero_xor] at h1
    exact h1.symm
  · rintro rfl
    exact Nat.xor_self _
theorem or8_zero {a b : Nat} (ha : a < 256) (hb : b < 256) : or8 a b = 0 ↔ a = 0 ∧ b = 0 := by
  unfold or8
  rw [Nat.mod_eq_of_lt (Nat.or_lt_two_pow (n := 8) ha hb), Nat.or_eq_zero_iff]
theorem and8_15 (a : Nat) : and8 a 15 = a % 16 := by
  unfold and8
  rw [show (15 : Nat) = 2 ^ 4 - 1 from rfl, Nat.and_two_pow_sub_one_eq_mod]
  omega
/-! ### what is owned, from now on known -/
theorem Inv.addKnown {w0 : Base} {ph : PH} {w : World} {H : List Atom} {g : Nat} {xs : List LV} (h : Inv w0 ph w H) (hr : Rep ph (.pointer (some ⟨g, 0, none⟩)) (.pin xs)) : Inv w0 ph w (.known g xs :: H) := by
  obtain ⟨hb, hc, h1, F, hs, hF⟩ := h
  exact ⟨hb, hc, h1, F, ⟨fun _ _ => False, F, ⟨fun _ _ h => h, hr⟩, hs, fun b o => by simp, fun _ _ h => h.elim⟩, hF⟩
theorem Inv.know' {w0 : Base} {ph : PH} {w : World} {H : List Atom} {b : Nat} {t : TypeId} {xs : List LV} (h : Inv w0 ph w (.cells b t xs :: H)) : ∃ ph', PH.le ph ph' ∧ Inv w0 ph' w (.known b xs :: H) := by
  obtain ⟨cs, ph', hle, hi, hc, hsz, hp⟩ := h.freeze
  refine ⟨ph', hle, hi.addKnown ?_⟩
  have hlt : ∀ (j : Nat) (x : LV), xs[j]? = some x → j < cs.size := fun j x hx => by rw [hsz]; exact (List.getElem?_eq_some_iff.1 hx).1
  refine .pin xs _ (fun j => cs.getD j undef) (fun j x hx => ?_) (fun j x hx => ?_)
  · have := hlt j x hx
    rw [add_lit, Nat.zero_add, hp j this]
    simp [this]
  · have h1 := hlt j x hx
    simp only [Array.getD_eq_getD_getElem?, Array.getElem?_eq_getElem h1, Option.getD_some]
    exact hc.1.2 j _ _ (Array.getElem?_eq_getElem h1) hx
theorem Inv.knowAt {w0 : Base} {ph : PH} {w : World} {H : List Atom} {b : Nat} {t : TypeId} {xs : List LV} (k : Nat) (hk : H[k]? = some (.cells b t xs)) (h : Inv w0 ph w H) : ∃ ph', PH.le ph ph' ∧ Inv w0 ph' w (.known b xs :: H.eraseIdx k) := by
  have hinv := h.front k
  unfold L.front at hinv
  rw [hk] at hinv
  exact hinv.know'
theorem LW.know {P : Program} {n : NN} {env : List (Nat × LV)} {H : List Atom} {c : Code} {Q : Exit → LS → Prop} {b : Nat} {te : TypeId} {xs : List LV} (k : Nat) (hk : H[k]? = some (.cells b te xs)) (h : LW P c ⟨n, env, .known b xs :: H.eraseIdx k⟩ Q) : LW P c ⟨n, env, H⟩ Q := fun w0 ph a w r Q' q => by
  obtain ⟨ph', hle, hi⟩ := Inv.knowAt k hk r.inv
  exact h w0 ph' a w ⟨hi, r.defers, r.size, fun i => (r.tmps i).mono hle⟩ Q' fun e ph2 st2 a2 w2 hle2 r2 q2 => q e ph2 st2 a2 w2 (hle.trans hle2) r2 q2
theorem LL.know {P : Program} {n : NN} {env : List (Nat × LV)} {H : List Atom} {ops : Array Oper} {l : List Oper} {K : LS → Prop} {b : Nat} {te : TypeId} {xs : List LV} (k : Nat) (hk : H[k]? = some (.cells b te xs)) (h : LL P ops l ⟨n, env, .known b xs :: H.eraseIdx k⟩ K) : LL P ops l ⟨n, env, H⟩ K := fun w0 ph a w r Q q => by
  obtain ⟨ph', hle, hi⟩ := Inv.knowAt k hk r.inv
  exact h w0 ph' a w ⟨hi, r.defers, r.size, fun i => (r.tmps i).mono hle⟩ Q fun ph2 st2 a2 w2 hle2 r2 q2 => q ph2 st2 a2 w2 (hle.trans hle2) r2 q2
section
variable {P : Program} {env : List (Nat × LV)} {H : List Atom} {d : Option Tmp} {ty : TypeId} {pos : String} {af : Array Edge} {g : Option (Nat × Bool)}
abbrev singles (xs : List LV) : List (List LV) := xs.map fun x => [x]
theorem known_sl {w0 : Base} {ph : PH} {w : World} (hinv : Inv w0 ph w H) {k b off m c : Nat} {xs : List LV} {kk : Cap} (hk : H[k]? = some (.known b xs)) (hm : off + m ≤ xs.length) (hc : m ≤ c) (hcap : CapOk (some ⟨b, off, none⟩) m c 1 kk) : Rep ph (.slice (some ⟨b, off, none⟩) m c) (.sl 1 (singles ((xs.drop off).take m)) kk) := by
  obtain ⟨F, hF, hh⟩ := hinv.atom_at hk
  generalize hq : (Value.pointer (some ⟨b, 0, none⟩)) = q at hh
  cases hh with | pin _ ad uf hp hr =>
    cases hq
    have key : ∀ (i : Nat) (e : List LV) (j : Nat) (x : LV), (singles ((xs.drop off).take m))[i]? = some e → e[j]? = some x → j = 0 ∧ xs[off + i]? = some x := fun i e j x h1 h2 => by
      simp only [singles, List.getElem?_map, List.getElem?_take, List.getElem?_drop] at h1
      split at h1
      · cases hx : xs[off + i]? with
        | none => rw [hx] at h1; cases h1
        | some y =>
          rw [hx] at h1
          obtain rfl : [y] = e := by simpa using h1
          cases j with
          | zero => exact ⟨rfl, by simpa using h2⟩
          | succ j => simp at h2
      · cases h1
    refine .sl 1 _ kk _ m c ⟨b, off, none⟩ (fun j => uf (off + j)) (fun _ => rfl) (by simp; omega) hc (fun e he => ?_) hcap (fun i e j x h1 h2 => ?_) (fun i e j x h1 h2 => ?_)
    · obtain ⟨x, _, rfl⟩ := List.mem_map.1 he
      rfl
    · obtain ⟨rfl, h3⟩ := key i e j x h1 h2
      have := hp _ _ h3
      rw [add_lit] at this ⊢
      simpa using this
    · obtain ⟨rfl, h3⟩ := key i e j x h1 h2
      have := hr _ _ h3
      simpa using this
theorem LU.sliceKA {x : Operand} {t e : TypeId} {n b off : Nat} {xs : List LV} (k : Nat) (hk : H[k]? = some (.known b xs)) (ht : P.underlying t = some (.array n e)) (hs : ∀ w, (sizeOf e).run P w = .ok 1 w) (hx : Is (ev env x) (.raw (.pointer (some ⟨b, off, none⟩)))) (hm : off + n ≤ xs.length) :
    LU P env H ⟨d, .slice t x none none none, ty, pos, af, g⟩ (.sl 1 (singles ((xs.drop off).take n)) .full) := .of_run fun ph a hl w0 w hinv => by
  have h1 := (hx _ _ (hl x (by simp [Op.operands]))).rawE
  have hal : P.arrayLen t = n := by simp [Program.arrayLen, ht]
  have hel : P.elem t = e := by simp [Program.elem, ht]
  refine ⟨_, ?_, known_sl hinv hk hm (Nat.le_refl _) rfl⟩
  have := run_sliceAt_array_all (P := P) w t ⟨b, off, none⟩ (by rw [hal, hel]; exact ht)
  simp only [execOp, Option.map_none, h1, Sem.run_bind, this, hel, hs, Result.andThen_ok, hal, slicedAt, Sem.run_pure]
  have e1 : (0 : Nat) * 1 = 0 := rfl
  have e0 : (if n = 0 then (⟨b, off, none⟩ : Addr) else (⟨b, off, none⟩ : Addr).add (0 * 1)) = ⟨b, off, none⟩ := by split <;> simp [add_lit]
  rw [e0]
  simp
end
/-! ### texts as lists -/
section
variable {P : Program} {env : List (Nat × LV)} {H : List Atom} {d : Option Tmp} {ty : TypeId} {pos : String} {af : Array Edge} {g : Option (Nat × Bool)}
theorem strL (a : ByteArray) : (⟨a.data.toList.toArray⟩ : ByteArray) = a := by cases a; simp
theorem bytes_toList (l : List UInt8) : (⟨l.toArray⟩ : ByteArray).toList = l := by
  have : ∀ (a : ByteArray), a.toList = a.data.toList := fun a => ByteArray.toList_eq a
  rw [this]
theorem LU.streqN {x y : Operand} {t t' : TypeId} {a b : List UInt8} (hx : Is (ev env x) (Str a)) (hy : Is (ev env y) (Str b)) : LU P env H ⟨d, .binOp .eql t x y t', ty, pos, af, g⟩ (.raw (.bool (decide (a = b)))) := by
  have := LU.streq (P := P) (H := H) (d := d) (ty := ty) (pos := pos) (af := af) (g := g) (t := t) (t' := t') hx hy
  rwa [bytes_toList, bytes_toList, show (a == b) = decide (a = b) from by rw [Bool.eq_iff_iff]; simp] at this
theorem LU.strneN {x y : Operand} {t t' : TypeId} {a b : List UInt8} (hx : Is (ev env x) (Str a)) (hy : Is (ev env y) (Str b)) : LU P env H ⟨d, .binOp .neq t x y t', ty, pos, af, g⟩ (.raw (.bool (decide (a ≠ b)))) := by
  have := LU.strne (P := P) (H := H) (d := d) (ty := ty) (pos := pos) (af := af) (g := g) (t := t) (t' := t') hx hy
  rwa [bytes_toList, bytes_toList, show (!(a == b)) = decide (a ≠ b) from by rw [Bool.eq_iff_iff]; simp] at this
theorem LU.strcatN {x y : Operand} {t t' : TypeId} {a b : List UInt8} (hx : Is (ev env x) (Str a)) (hy : Is (ev env y) (Str b)) (hl : a.length + b.length ≤ 9223372036854775807) : LU P env H ⟨d, .binOp .add t x y t', ty, pos, af, g⟩ (Str (a ++ b)) := by
  have := LU.strcat (P := P) (H := H) (d := d) (ty := ty) (pos := pos) (af := af) (g := g) (t := t) (t' := t') hx hy (by simpa [ByteArray.size] using hl)
  rwa [show ((⟨a.toArray⟩ : ByteArray) ++ ⟨b.toArray⟩) = ⟨(a ++ b).toArray⟩ by apply ByteArray.ext; simp [ByteArray.data_append]] at this
theorem LU.stratN {x y : Operand} {t : TypeId} {l : List UInt8} {k : IntKind} {i : Int} (ht : P.underlying t = some .string) (hx : Is (ev env x) (Str l)) (hy : Is (ev env y) (.raw (.int k i))) (h0 : 0 ≤ i) (h1 : i.toNat < l.length) : LU P env H ⟨d, .index t x y, ty, pos, af, g⟩ (u8 (l.getD i.toNat 0).toNat) := by
  have := LU.strat (P := P) (H := H) (d := d) (ty := ty) (pos := pos) (af := af) (g := g) ht hx hy h0 (by simpa [ByteArray.size] using h1)
  rwa [show ((⟨l.toArray⟩ : ByteArray)[i.toNat]'(by simpa [ByteArray.size] using h1)) = l.getD i.toNat 0 by simp [ByteArray.getElem_eq_getElem_data, List.getD, h1]] at this
theorem LU.strsliceN {x : Operand} {t : TypeId} {s : List UInt8} {lo hi : Option Operand} {l h : Option Int} (ht : P.underlying t = some .string) (hl : optInt env lo l) (hh : optInt env hi h) (h0 : 0 ≤ l.getD 0) (h1 : l.getD 0 ≤ h.getD s.length) (h2 : h.getD s.length ≤ s.length) (hx : Is (ev env x) (Str s)) :
    LU P env H ⟨d, .slice t x lo hi none, ty, pos, af, g⟩ (Str ((s.drop (l.getD 0).toNat).take ((h.getD s.length).toNat - (l.getD 0).toNat))) := by
  have e : ((⟨s.toArray⟩ : ByteArray).size : Int) = s.length := by simp [ByteArray.size]
  have := LU.strslice (P := P) (H := H) (d := d) (ty := ty) (pos := pos) (af := af) (g := g) ht hl hh h0 (by rw [e]; exact h1) (by rw [e]; exact h2) hx
  rw [e] at this
  rwa [show (⟨s.toArray⟩ : ByteArray).extract (l.getD 0).toNat (h.getD s.length).toNat = ⟨((s.drop (l.getD 0).toNat).take ((h.getD s.length).toNat - (l.getD 0).toNat)).toArray⟩ by
    apply ByteArray.ext
    apply Array.ext'
    simp [ByteArray.data_extract, List.take_drop]] at this
end
end Go.L

set_option linter.unusedVariables false
set_option linter.unusedSimpArgs false
namespace Go.L
open Go.RowKit
section
variable {P : Program} {st : LS} {env : List (Nat × LV)} {H : List Atom} {K : LS → Prop} {ty : TypeId} {pos : String} {af : Array Edge} {g : Option (Nat × Bool)}
theorem append_owns {A0 : List Atom} {w0 : Base} {ph : PH} {w : World} (hA0 : ∀ a ∈ A0, a ∈ H) (hinv : Inv w0 ph w H) {t tx ty' e : TypeId} {z : Value} {size by_ : Nat} (ht : P.underlying t = some (.slice e)) (hel : El P e z size by_) (hz1 : ∀ (i : Nat) (c : Value), z.cells[i]? = some c → c.oneCell' = true) {ad : Addr} {ys : List (List LV)} {x : Value} {y : LV}
    (hs : SrcG P A0 tx size y ys) (ry : Rep ph x y) (hg : 0 < ys.length) (hb : ys.length * by_ ≤ 140737488355328) (hb0 : ys.length ≤ 9223372036854775807) :
    ∃ c' w' rest, (Builtin.append_ #[t, tx] ty' #[.slice (some ad) 0 0, x]).run P w = .ok (.slice (some ⟨w.heap.size, 0, none⟩) ys.length c') w' ∧ ys.length ≤ c' ∧ rest.length = (c' - ys.length) * size ∧ Inv w0 ph w' (.cells w.heap.size e (ys.flatten ++ raws rest) :: H) := by
  obtain ⟨⟨i, hi, hz, hsz, hby⟩, hzs, hs0⟩ := hel
  obtain ⟨news, hsrc, hnc⟩ := hs.2 w0 ph w H x hA0 hinv ry
  have hnl : news.length = ys.length * size := hsrc.newsLen
  have hold : (Builtin.firstCells i.size 0 (.slice (some ad) 0 0)).run P w.drew = .ok ([] : List Value).toArray w.drew := run_firstCells_some _ _ _ _ _ _ _ (by simp) (fun j v h => by simp at h)
  have hrun := run_append_grow_src (P := P) w t tx ty' e i z ht hi hz (some ad) 0 0 [] hold x ys.length news (hsz ▸ hsrc) (by omega) (by omega) (by rw [hby]; exact growslice_fits (by omega) (by rw [Nat.zero_add]; exact hb))
  rw [Nat.zero_add] at hrun
  have hge := grownCap_ge w ys.length 0 e
  refine ⟨_, _, (Builtin.zeroCells z.cells (grownCap w ys.length 0 e - ys.length)).toList, hrun, hge, by simp [size_zeros, hzs], ?_⟩
  have hb' : Below w.heap.size w w.drew := Below.drew (Below.refl _ _)
  have hinv2 := hinv.step hb'
  have := hinv2.block e (cs := (([] ++ news).toArray ++ Builtin.zeroCells z.cells (grownCap w ys.length 0 e - ys.length))) (xs := ys.flatten ++ raws (Builtin.zeroCells z.cells (grownCap w ys.length 0 e - ys.length)).toList) (by
    have h1 : CReps ph (Builtin.zeroCells z.cells (grownCap w ys.length 0 e - ys.length)).toList.toArray (raws (Builtin.zeroCells z.cells (grownCap w ys.length 0 e - ys.length)).toList) := by
      rw [Array.toArray_toList]
      refine raws_creps fun j c hc => ?_
      unfold Builtin.zeroCells at hc
      simp only [Array.getElem?_map, Option.map_eq_some_iff] at hc
      obtain ⟨q, _, rfl⟩ := hc
      have hlt : q % z.cells.size < z.cells.size := Nat.mod_lt _ (by omega)
      refine hz1 (q % z.cells.size) _ ?_
      rw [Array.getElem?_eq_getElem hlt, getElem!_pos z.cells _ hlt]
    have := creps_append (as := news) hnc h1
    rwa [show (news ++ (Builtin.zeroCells z.cells (grownCap w ys.length 0 e - ys.length)).toList).toArray = ([] ++ news).toArray ++ Builtin.zeroCells z.cells (grownCap w ys.length 0 e - ys.length) by simp] at this)
  exact this
/-- append([]T{}, x..) whose row is owned. -/
theorem LO.appendO {A0 : List Atom} (hA0 : ∀ a ∈ A0, a ∈ st.heap) {s x : Operand} {t tx e e' : TypeId} {z : Value} {size by_ : Nat} {ys : List (List LV)} {y : LV} {d : Tmp} {b0 : Nat} (k : Nat) (hk : st.heap[k]? = some (.cells b0 e [])) (hd : Nat.blt d st.n.k = true) (ht : P.underlying t = some (.slice e)) (hel : El P e z size by_) (hz1 : ∀ (i : Nat) (c : Value), z.cells[i]? = some c → c.oneCell' = true)
    (hs : Is (ev st.env s) (.raw (.slice (some ⟨b0, 0, none⟩) 0 0))) (hx : Is (ev st.env x) y) (hy : SrcG P A0 tx size y ys) (hb : ys.length * by_ ≤ 140737488355328) (hb0 : ys.length ≤ 9223372036854775807)
    (h : ∀ b c rest, ys.length ≤ c → rest.length = (c - ys.length) * size → K ⟨st.n, (d, .raw (.slice (some ⟨b, 0, none⟩) ys.length c)) :: st.env, .cells b e (ys.flatten ++ raws rest) :: st.heap.eraseIdx k⟩) :
    LO P ⟨some d, .call { callee := .builtin .append, args := #[s, x], argTypes := #[t, tx] }, ty, pos, af, g⟩ st K := .of_run hd fun w0 ph a w rl => by
  have h1 := (hs _ _ (rl.tmps.eval s)).rawE
  have ry := hx _ _ (rl.tmps.eval x)
  have hinv := rl.inv.front k
  have hrun : ∀ v w', (Builtin.append_ #[t, tx] ty #[.slice (some ⟨b0, 0, none⟩) 0 0, a.eval x]).run P w = .ok v w' → (execOp a.eval ⟨some d, .call { callee := .builtin .append, args := #[s, x], argTypes := #[t, tx] }, ty, pos, af, g⟩).run P w = .ok (.value v) w' := fun v w' h => by
    simp [execOp, resolve, invoke, builtin, h1, h]
  unfold L.front at hinv
  rw [hk] at hinv
  by_cases h0 : ys.length = 0
  · obtain rfl := List.eq_nil_of_length_eq_zero h0
    exact ⟨_, _, w, ph, _, hrun _ _ (append_nothing hA0 rl.inv ht hel (Nat.le_refl _) hy ry), PH.le.refl _, by simpa [raws] using hinv, .raw _, by simpa [raws] using h b0 0 [] (Nat.le_refl _) (by simp)⟩
  · obtain ⟨c', w', rest, h2, h3, h4, h5⟩ := append_owns (ty' := ty) (ad := ⟨b0, 0, none⟩) hA0 rl.inv ht hel hz1 hy ry (by omega) hb hb0
    refine ⟨_, _, w', ph, _, hrun _ _ h2, PH.le.refl _, ?_, .raw _, h _ _ _ h3 h4⟩
    have h6 := h5.front (k + 1)
    unfold L.front at h6
    rw [List.getElem?_cons_succ, hk] at h6
    exact (HSub.drop (HSub.refl _)).app h6
/-! ### what is owned, lent to a call that acts on nothing -/
def IsL (H : List Atom) (x y : LV) : Prop := ∀ w0 ph w u, Inv w0 ph w H → Rep ph u x → Rep (PH.all w) u y
theorem le_all {w0 : Base} {ph : PH} {w : World} (h : Inv w0 ph w H) : PH.le ph (PH.all w) := fun a u hu => PH.all_some.2 ⟨h.cell a u hu, h.one a u hu⟩
theorem IsL.of {x y : LV} (h : Is x y) : IsL H x y := fun w0 ph w u hi r => (h ph u r).mono (le_all hi)
theorem IsL.rfl' {x : LV} : IsL H x x := IsL.of Is.rfl'
theorem IsL.cells {x : LV} {b off n c size : Nat} {te : TypeId} {xs : List LV} {es : List (List LV)} (k : Nat) (hk : H[k]? = some (.cells b te xs)) (hx : Is x (.raw (.slice (some ⟨b, off, none⟩) n c))) (hs : ∀ e ∈ es, e.length = size) (hn : es.length = n) (hfit : off + n * size ≤ xs.length) (he : es.flatten = (xs.drop off).take (n * size)) (hnc : n ≤ c) : IsL H x (.sl size es .unk) := fun w0 ph w u hi r => by
  rw [(hx ph u r).rawE]
  obtain ⟨F, hF, cs, hh, hc⟩ := hi.atom_at hk
  exact freeze_rep (hc.mono (le_all hi)) (fun i h => PH.all_some.2 ⟨by rw [cell_of_row w b i cs te _ hh]; simp [h], hc.2 i _ (Array.getElem?_eq_getElem h)⟩ |>.trans (by simp [h])) hs hn hfit he hnc
def OpdsL (H : List Atom) (env : List (Nat × LV)) : List Operand → List LV → Prop
  | [], [] => True
  | x :: xs, v :: vs => IsL H (ev env x) v ∧ OpdsL H env xs vs
  | _, _ => False
theorem OpdsL.nil : OpdsL H env [] [] := trivial
theorem OpdsL.cons {x : Operand} {v : LV} {xs : List Operand} {vs : List LV} (h : IsL H (ev env x) v) (k : OpdsL H env xs vs) : OpdsL H env (x :: xs) (v :: vs) := ⟨h, k⟩
theorem OpdsL.reps {w0 : Base} {ph : PH} {w : World} (hi : Inv w0 ph w H) {a : Act} : ∀ {xs : List Operand} {vs : List LV}, OpdsL H env xs vs → (∀ x ∈ xs, Rep ph (a.eval x) (ev env x)) → Reps (PH.all w) (xs.map a.eval).toArray vs
  | [], [], _, _ => ⟨rfl, by simp⟩
  | x :: xs, v :: vs, h, hr => reps_cons (h.1 _ _ _ _ hi (hr x (by simp))) (OpdsL.reps hi h.2 fun y hy => hr y (by simp [hy]))
  | [], _ :: _, h, _ => h.elim
  | _ :: _, [], h, _ => h.elim
theorem LU.lend {f : FuncId} {fn : Func} {as : Array Operand} {ts : Array TypeId} {vs : List LV} {v : Value} {d : Option Tmp} (hc : LCalls P f vs [] (fun r H' => r = .raw v ∧ H' = [])) (hf : P.funcs[f]? = some fn) (hname : (fn.name == "runtime.NumGoroutine") = false) (hb : fn.body.isSome = true) (ha : OpdsL H env as.toList vs) :
    LU P env H ⟨d, .call { callee := .value (.func f), args := as, argTypes := ts }, ty, pos, af, g⟩ (.raw v) := fun w0 ph ac w hi hl N Q kk => by
  have hargs := ha.reps hi (a := ac) (fun x hx => hl x (by simp only [Op.operands, Call.operands]; exact Array.mem_append.2 (.inr (by simpa using hx))))
  have hrun : (execOp ac.eval ⟨d, .call { callee := .value (.func f), args := as, argTypes := ts }, ty, pos, af, g⟩).run P w = .ok (.enter f (as.map ac.eval)) w := by
    simp [execOp, resolve, Deferred.ofValue, invoke, Act.eval, enters hf hname hb]
  unfold owp
  rw [hrun]
  refine upon_enter ?_
  refine ((hc.mono fun r H' h => h.1).run (w := w) (vs := as.map ac.eval) (by rw [map_arr ac.eval as]; exact hargs)).mono ?_
  rintro e w' ⟨rfl, hbel⟩
  exact kk ph _ w' (PH.le.refl _) (hi.step hbel) (.raw _)
/-- Owned cells, the source of an append. -/
theorem SrcG.cells {tx e : TypeId} {b off n c size : Nat} {te : TypeId} {xs : List LV} {ys : List (List LV)} (ht : P.underlying tx = some (.slice e)) (hs0 : 0 < size) (hys : ∀ e ∈ ys, e.length = size) (hn : ys.length = n) (hfit : off + n * size ≤ xs.length) (he : ys.flatten = (xs.drop off).take (n * size)) (hnc : n ≤ c) : SrcG P [.cells b te xs] tx size (.raw (.slice (some ⟨b, off, none⟩) n c)) ys := ⟨hys, fun w0 ph w H u hA hi r => by
  rw [r.rawE]
  obtain ⟨k, hk⟩ := List.getElem?_of_mem (hA (.cells b te xs) (by simp))
  obtain ⟨F, hF, cs, hh, hc⟩ := hi.atom_at hk
  have hsz : cs.size = xs.length := hc.1.1
  have hm : ∀ j, j < n * size → ((cs.toList.drop off).take (n * size))[j]? = cs[off + j]? := fun j hj => by
    rw [List.getElem?_take_of_lt hj, List.getElem?_drop, Array.getElem?_toList]
  have hnl : ((cs.toList.drop off).take (n * size)).length = n * size := by simp; omega
  refine ⟨(cs.toList.drop off).take (n * size), ?_, ⟨by rw [he]; simp; omega, fun j u x hu hx => ?_⟩, fun j u hu => ?_⟩
  · rw [hn]
    refine Src.ofSlice w ht ⟨b, off, none⟩ n c _ hnl (fun j u hu => ?_) (fun u hu => ?_)
    · have hj : j < n * size := by have := (List.getElem?_eq_some_iff.1 hu).1; omega
      rw [hm j hj] at hu
      rw [add_lit, cell_of_row w b (off + j) cs te _ hh]; exact hu
    · obtain ⟨j, hu⟩ := List.getElem?_of_mem hu
      have hj : j < n * size := by have := (List.getElem?_eq_some_iff.1 hu).1; omega
      rw [hm j hj] at hu
      exact hc.2 _ _ hu
  · have hj : j < n * size := by have := (Array.getElem?_eq_some_iff.1 hu).1; simp at this; omega
    rw [List.getElem?_toArray, hm j hj] at hu
    rw [he, List.getElem?_take_of_lt hj, List.getElem?_drop] at hx
    exact hc.1.2 _ _ _ hu hx
  · have hj : j < n * size := by have := (Array.getElem?_eq_some_iff.1 hu).1; simp at this; omega
    rw [List.getElem?_toArray, hm j hj] at hu
    exact hc.2 _ _ hu⟩
theorem X.appendO {A0 : List Atom} {nn : NN} {s x : Operand} {t tx e : TypeId} {z : Value} {size by_ : Nat} {ys : List (List LV)} {y : LV} {d : Tmp} {b0 : Nat} (k : Nat) (hk : H[k]? = some (.cells b0 e [])) (hd : Nat.blt d nn.k = true) (ht : P.underlying t = some (.slice e)) (hel : El P e z size by_) (hz1 : ∀ (i : Nat) (c : Value), z.cells[i]? = some c → c.oneCell' = true)
    (hs : Is (ev env s) (.raw (.slice (some ⟨b0, 0, none⟩) 0 0))) (hx : Is (ev env x) y) (hA0 : ∀ a ∈ A0, a ∈ H) (hy : SrcG P A0 tx size y ys) (hb : ys.length * by_ ≤ 140737488355328) (hb0 : ys.length ≤ 9223372036854775807)
    (h : ∀ b c rest, ys.length ≤ c → rest.length = (c - ys.length) * size → K ⟨nn, (d, .raw (.slice (some ⟨b, 0, none⟩) ys.length c)) :: env, .cells b e (ys.flatten ++ raws rest) :: H.eraseIdx k⟩) :
    LO P ⟨some d, .call { callee := .builtin .append, args := #[s, x], argTypes := #[t, tx] }, ty, pos, af, g⟩ ⟨nn, env, H⟩ K := LO.appendO (st := ⟨nn, env, H⟩) (e' := e) hA0 k hk hd ht hel hz1 hs hx hy hb hb0 h
theorem X.appendG {A0 : List Atom} {nn : NN} {s x : Operand} {t tx e : TypeId} {z : Value} {size by_ : Nat} {es ys : List (List LV)} {y : LV} {d : Tmp} {b o c : Nat} (k : Nat) (hk : H[k]? = some (.tail b o c)) (hd : Nat.blt d nn.k = true) (ht : P.underlying t = some (.slice e)) (hel : El P e z size by_) (hs : Is (ev env s) (.sl size es (.tok b o c))) (hx : Is (ev env x) y) (hA0 : ∀ a ∈ A0, a ∈ H) (hy : SrcG P A0 tx size y ys) (hb : (es.length + ys.length) * by_ ≤ 140737488355328) (hb0 : es.length + ys.length ≤ 9223372036854775807)
    (h : ∀ b' o' c', K ⟨nn, (d, .sl size (es ++ ys) (.tok b' o' c')) :: env, .tail b' o' c' :: H.eraseIdx k⟩) :
    LO P ⟨some d, .call { callee := .builtin .append, args := #[s, x], argTypes := #[t, tx] }, ty, pos, af, g⟩ ⟨nn, env, H⟩ K := LO.appendG (st := ⟨nn, env, H⟩) hA0 k hk hd ht hel hs hx hy hb hb0 h
/-- Owned bytes, as bytes. -/
theorem IsL.bytes {x : LV} {b c : Nat} {te : TypeId} {l : List UInt8} {rest : List LV} {n : Nat} (k : Nat) (hk : H[k]? = some (.cells b te ((l.map fun b => LV.raw (.int .u8 b.toNat)) ++ rest))) (hx : Is x (.raw (.slice (some ⟨b, 0, none⟩) n c))) (hn : l.length = n) (hnc : n ≤ c) : IsL H x (Bytes l .unk) :=
  IsL.cells k hk hx (byteEls_size l) (by simpa [byteEls] using hn) (by simp; omega) (by rw [byteEls_flat, List.drop_zero, Nat.mul_one, ← hn]; simp) hnc
end
end Go.L
