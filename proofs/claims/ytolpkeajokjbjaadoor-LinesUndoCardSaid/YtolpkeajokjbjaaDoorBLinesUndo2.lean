/- What LinesUndo needs, part 2. -/
import Derived.Below
import Derived.WalkKit
import Derived.OwnWalk
import Derived.Deep.LoopGhost
import Derived.RangeFuncIn
import Derived.RangeFuncLeaves
import Derived.TacticsIn
import Derived.OrdersIn
import Derived.LoopIn
import Derived.LoopNIn
import Derived.Laws.Entries
import Derived.Laws.Slices
import Derived.Laws.Cells
import Derived.Deep.AppendSrc
import Derived.Deep.MidRow
import Derived.Laws.AppendOwn
import Derived.Laws.MakeOwn
import Derived.Laws.IdiomCopy
import Derived.Lib.ConvBytes
import Derived.Lib.SlBytesConst
import Derived.Laws.BytesArg
import Derived.Deep.Upon
import Derived.Laws.StructEq
import Derived.Laws.Small
import Derived.SizedLaws
import Derived.ChangeSlices
import Derived.Lib.SmallJoins
import Derived.MakeChecks
import Derived.ChangeBears2
import Derived.Laws.CopyRow
import Derived.RangeFuncRecord
import Derived.Laws.Externs
import Derived.Lib.Bytealg
import Derived.Lib.IndexLaws
import Derived.DefersIn
import Derived.Lib.SliceRun
import Derived.OpenShut
import Derived.WideShapes
import Derived.Maps.RangeRun
import Derived.Sort.Row
import Derived.Lib.BytesEntry
import Derived.Lib.SlFresh
import Derived.Test.YtolpkeajokjbjaaDoorProg
import Derived.Test.YtolpkeajokjbjaaDoorRows
import Derived.LaidMore
import Derived.LaidHandle
import Derived.ChangeSame
import Derived.Test.YtolpkeajokjbjaaDoorBLinesUndo1
set_option linter.unusedVariables false
set_option linter.unusedSimpArgs false
namespace Go.L
open Go.RowKit
/-- Quiet operations, one after the other. -/
inductive QC (P : Program) (ops : Array Oper) (H : List Atom) : List (Nat × LV) → List Oper → List (Nat × LV) → Prop where
  | nil (env : List (Nat × LV)) : QC P ops H env [] env
  | cons {env env' : List (Nat × LV)} {o : Oper} {l : List Oper} {v : LV} {d : Nat} (hq : LQ P ops env H o v) (hd : o.dst = some d) (h : QC P ops H ((d, v) :: env) l env') : QC P ops H env (o :: l) env'
def dstOf (ops : Array Oper) (i : Nat) : Option Nat := (ops[i]?).bind (·.dst)
def who (ops : Array Oper) (d : Nat) : Option Nat := (List.range ops.size).find? fun i => dstOf ops i == some d
def direct (ops : Array Oper) (i : Nat) : List Nat := match ops[i]? with
  | some o => (o.after.toList.filter fun e => Region.binds .any e).map (·.on)
  | none => []
/-- Every slot that an operation looks at is written by what surely comes ahead of it, or surely behind it; each is written once; the last ones (from m on) come one after the other, behind all else. -/
def drawOk (ops : Array Oper) (m : Nat) : Bool :=
  let B := Region.before ops
  let n := ops.size
  (List.range n).all fun i =>
    (Nat.ble m i || ((match dstOf ops i with | some d => who ops d == some i | none => false) &&
      (match ops[i]? with
        | some o => (o.looksAt ops).all fun t => match who ops t with
          | none => true
          | some k => k == i || (Nat.blt k i && (B.getD i 0).testBit k) || (Nat.blt i k && (B.getD k 0).testBit i)
        | none => false))) &&
    (direct ops i).all (fun j => Nat.blt j i) &&
    (List.range n).all (fun k => !(B.getD i 0).testBit k || (direct ops i).contains k || (direct ops i).any fun e => (B.getD e 0).testBit k) &&
    (Nat.blt i m || (List.range i).all fun k => (B.getD i 0).testBit k)
section
variable {P : Program} {ops : Array Oper} {H : List Atom}
def envAt (ops : Array Oper) (vs : Nat → LV) (env : List (Nat × LV)) : Nat → List (Nat × LV)
  | 0 => env
  | i + 1 => match dstOf ops i with
    | some d => (d, vs i) :: envAt ops vs env i
    | none => envAt ops vs env i
theorem QC.values : ∀ (l : List Oper) {k : Nat} {env env' : List (Nat × LV)}, QC P ops H env l env' → (∀ j, j < l.length → ops[k + j]? = l[j]?) → ∀ vs0 : Nat → LV,
    ∃ vs : Nat → LV, (∀ i, i < k → vs i = vs0 i) ∧ ∀ env0, envAt ops vs0 env0 k = env → (∀ i o, k ≤ i → i < k + l.length → ops[i]? = some o → LQ P ops (envAt ops vs env0 i) H o (vs i)) ∧ envAt ops vs env0 (k + l.length) = env'
  | [], k, env, _, .nil _, _, vs0 => ⟨vs0, fun _ _ => rfl, fun env0 h => ⟨fun i o h1 h2 => by simp at h2; omega, by simpa using h⟩⟩
  | o :: l, k, env, env', .cons (v := v) (d := d) hq hd h, hl, vs0 => by
    have hk : ops[k]? = some o := by have := hl 0 (by simp); simpa using this
    have hdk : dstOf ops k = some d := by simp [dstOf, hk, hd]
    have hcong : ∀ (f g : Nat → LV) (env0 : List (Nat × LV)) (m : Nat), (∀ i, i < m → f i = g i) → envAt ops f env0 m = envAt ops g env0 m := by
      intro f g env0 m
      induction m with
      | zero => intro _; rfl
      | succ m ih =>
        intro hfg
        simp only [envAt]
        rw [ih (fun i hi => hfg i (by omega)), hfg m (by omega)]
    obtain ⟨vs, h1, h2⟩ := QC.values l (k := k + 1) h (fun j hj => by
      have := hl (j + 1) (by simp; omega)
      rw [show k + 1 + j = k + (j + 1) by omega, this, List.getElem?_cons_succ]) (fun i => if i = k then v else vs0 i)
    refine ⟨vs, fun i hi => by rw [h1 i (by omega), if_neg (by omega)], fun env0 he => ?_⟩
    have hvk : vs k = v := by rw [h1 k (by omega), if_pos rfl]
    have hek : envAt ops vs env0 k = env := by
      rw [← he]
      exact hcong _ _ _ _ (fun i hi => by rw [h1 i (by omega), if_neg (by omega)])
    obtain ⟨h3, h4⟩ := h2 env0 (by
      simp only [envAt, hdk, if_true]
      rw [← he]
      congr 1
      exact hcong _ _ _ _ (fun i hi => by simp [show i ≠ k by omega]))
    refine ⟨fun i o' hi1 hi2 ho => ?_, by rw [← h4]; simp only [List.length_cons]; congr 1; omega⟩
    by_cases hik : i = k
    · subst hik
      rw [hk] at ho
      injection ho with ho
      subst ho
      rw [hvk, hek]
      exact hq
    · exact h3 i o' (by omega) (by simp at hi2; omega) ho
theorem get_envAt (vs : Nat → LV) (env0 : List (Nat × LV)) (m : Nat) (hw : ∀ i, i < m → ∃ d, dstOf ops i = some d ∧ who ops d = some i) (t : Nat) : ∀ k, k ≤ m → get (envAt ops vs env0 k) t = match who ops t with
    | some j => if j < k then vs j else get env0 t
    | none => get env0 t := by
  intro k
  induction k with
  | zero => intro _; simp only [envAt]; split <;> simp
  | succ k ih =>
    intro hk
    obtain ⟨d, hd, hwd⟩ := hw k (by omega)
    simp only [envAt, hd]
    by_cases hdt : d = t
    · subst hdt
      rw [get_same, hwd]
      simp
    · rw [get_other hdt, ih (by omega)]
      split
      · rename_i j hj
        by_cases hjk : j = k
        · subst hjk
          have : dstOf ops j = some t := by
            have := List.find?_some hj
            simpa using this
          rw [hd] at this
          injection this with this
          exact (hdt this).elim
        · by_cases hlt : j < k
          · rw [if_pos hlt, if_pos (by omega)]
          · rw [if_neg hlt, if_neg (by omega)]
      · rfl
def slotAt (ops : Array Oper) (vs : Nat → LV) (env0 : List (Nat × LV)) (S : Array Bool) (t : Nat) : LV := match who ops t with
  | some j => if S.getD j false = true then vs j else get env0 t
  | none => get env0 t
structure DrawOk (ops : Array Oper) (m : Nat) : Prop where
  dst : ∀ i, i < ops.size → i < m → ∃ d, dstOf ops i = some d ∧ who ops d = some i
  looks : ∀ i o, i < m → ops[i]? = some o → ∀ t ∈ o.looksAt ops, ∀ k, who ops t = some k → k = i ∨ (k < i ∧ ((Region.before ops).getD i 0).testBit k = true) ∨ (i < k ∧ ((Region.before ops).getD k 0).testBit i = true)
  less : ∀ i, i < ops.size → ∀ j ∈ direct ops i, j < i
  clo : ∀ i k, i < ops.size → k < ops.size → ((Region.before ops).getD i 0).testBit k = true → k ∈ direct ops i ∨ ∃ e ∈ direct ops i, ((Region.before ops).getD e 0).testBit k = true
  last : ∀ i k, i < ops.size → m ≤ i → k < i → ((Region.before ops).getD i 0).testBit k = true
theorem DrawOk.of {m : Nat} (h : drawOk ops m = true) : DrawOk ops m := by
  unfold drawOk at h
  simp only [List.all_eq_true, List.mem_range, Bool.and_eq_true] at h
  refine ⟨fun i hi hm => ?_, fun i o hm ho t ht k hk => ?_, fun i hi j hj => ?_, fun i k hi hk hb => ?_, fun i k hi hm hk => ?_⟩
  · obtain ⟨⟨⟨h1, _⟩, _⟩, _⟩ := h i hi
    rcases Bool.or_eq_true _ _ |>.mp h1 with h1 | h1
    · exact absurd (Nat.le_of_ble_eq_true h1) (by omega)
    · have h1 := (Bool.and_eq_true _ _ |>.mp h1).1
      cases hd : dstOf ops i with
      | none => rw [hd] at h1; cases h1
      | some d => rw [hd] at h1; exact ⟨d, rfl, by simpa using h1⟩
  · have hi : i < ops.size := (Array.getElem?_eq_some_iff.1 ho).1
    obtain ⟨⟨⟨h1, _⟩, _⟩, _⟩ := h i hi
    rcases Bool.or_eq_true _ _ |>.mp h1 with h1 | h1
    · exact absurd (Nat.le_of_ble_eq_true h1) (by omega)
    · have h1 := (Bool.and_eq_true _ _ |>.mp h1).2
      rw [ho] at h1
      have h2 := List.all_eq_true.1 h1 t ht
      rw [hk] at h2
      simp only [Bool.or_eq_true, Bool.and_eq_true, beq_iff_eq, Nat.blt_eq] at h2
      rcases h2 with (h2 | h2) | h2
      · exact .inl h2
      · exact .inr (.inl h2)
      · exact .inr (.inr h2)
  · obtain ⟨⟨⟨_, h1⟩, _⟩, _⟩ := h i hi
    simpa [Nat.blt_eq] using h1 j hj
  · obtain ⟨⟨⟨_, _⟩, h1⟩, _⟩ := h i hi
    have := h1 k hk
    simp only [Bool.or_eq_true, hb, Bool.not_true, Bool.false_eq_true, false_or, List.contains_iff_mem, List.any_eq_true] at this
    exact this
  · obtain ⟨⟨⟨_, _⟩, _⟩, h1⟩ := h i hi
    rcases Bool.or_eq_true _ _ |>.mp h1 with h1 | h1
    · have : i < m := by simpa [Nat.blt_eq] using h1
      omega
    · exact List.all_eq_true.1 h1 k (List.mem_range.2 hk)
/-- The listed ones have all that comes ahead of them. -/
def Down (ops : Array Oper) (S : Array Bool) : Prop := ∀ i, S.getD i false = true → ∀ j ∈ direct ops i, S.getD j false = true
theorem clo_down {m : Nat} (hok : DrawOk ops m) {S : Array Bool} (hd : Down ops S) : ∀ i k, i < ops.size → k < ops.size → ((Region.before ops).getD i 0).testBit k = true → (∀ j ∈ direct ops i, S.getD j false = true) → S.getD k false = true := by
  intro i
  induction i using Nat.strongRecOn with
  | _ i ih =>
    intro k hi hk hb hs
    rcases hok.clo i k hi hk hb with h | ⟨e, he, hb'⟩
    · exact hs k h
    · have hlt := hok.less i hi e he
      exact ih e hlt k (by omega) hk hb' (hd e (hs e he))
theorem ready_iff {S : Array Bool} {i : Nat} : i ∈ Region.ready .any ops S ↔ S.getD i true = false ∧ i < ops.size ∧ ∀ j ∈ direct ops i, S.getD j false = true := by
  rw [mem_ready]
  constructor
  · rintro ⟨h1, o, ho, h2⟩
    refine ⟨h1, (Array.getElem?_eq_some_iff.1 ho).1, fun j hj => ?_⟩
    simp only [direct, ho, List.mem_map, List.mem_filter] at hj
    obtain ⟨e, ⟨he, hb⟩, rfl⟩ := hj
    exact h2 e (by simpa using he) hb
  · rintro ⟨h1, hi, h2⟩
    refine ⟨h1, ops[i], Array.getElem?_eq_getElem hi, fun e he hb => h2 e.on ?_⟩
    simp only [direct, Array.getElem?_eq_getElem hi, List.mem_map, List.mem_filter]
    exact ⟨e, ⟨by simpa using he, hb⟩, rfl⟩
theorem getD_set {S : Array Bool} {i : Nat} (hi : i < S.size) (j : Nat) (b : Bool) : (S.setIfInBounds i true).getD j b = if j = i then true else S.getD j b := by
  by_cases hij : i = j
  · subst hij
    simp [hi]
  · simp [Array.getElem?_setIfInBounds_ne hij, Ne.symm hij]
def left (S : Array Bool) : List Nat → Nat
  | [] => 0
  | i :: l => (if S.getD i true = true then 0 else 1) + left S l
theorem left_le {S : Array Bool} {i : Nat} (hi : i < S.size) : ∀ l, left (S.setIfInBounds i true) l ≤ left S l
  | [] => Nat.le_refl _
  | j :: l => by
    have := left_le hi l
    simp only [left, getD_set hi]
    by_cases hj : j = i
    · simp only [hj, if_true]
      omega
    · simp only [hj, if_false]
      omega
theorem left_lt {S : Array Bool} {i : Nat} (hi : i < S.size) (hf : S.getD i true = false) : ∀ l, i ∈ l → left (S.setIfInBounds i true) l < left S l
  | [], h => by cases h
  | j :: l, h => by
    have hle := left_le hi l
    simp only [left, getD_set hi]
    by_cases hj : j = i
    · subst hj
      simp only [if_true, hf, Bool.false_eq_true, if_false]
      omega
    · have := left_lt hi hf l (by rcases List.mem_cons.1 h with h | h; exact absurd h.symm hj; exact h)
      simp only [hj, if_false]
      omega
theorem left_zero {S : Array Bool} : ∀ l, left S l = 0 → ∀ i ∈ l, S.getD i true = true
  | [], _, _, h => by cases h
  | j :: l, h, i, hi => by
    simp only [left] at h
    have h1 : S.getD j true = true := by
      by_cases hj : S.getD j true = true
      · exact hj
      · rw [if_neg hj] at h; omega
    rcases List.mem_cons.1 hi with rfl | hi
    · exact h1
    · exact left_zero l (by omega) i hi
/-- The one order that is left. -/
theorem oany_tail {m : Nat} {Q : Exit → Act → World → Prop} (hok : DrawOk ops m) : ∀ (l : List Oper) (k : Nat) (fuel : Nat) (S : Array Bool) (a : Act) (w : World), m ≤ k → k + l.length = ops.size → (∀ j, j < l.length → ops[k + j]? = l[j]?) → S.size = ops.size → (∀ j, j < ops.size → (S.getD j true = true ↔ j < k)) → l.length ≤ fuel →
    olist P ops Q l a w → oany P .any ops Q fuel S a w
  | [], k, fuel, S, a, w, hm, hk, hl, hS, hs, hf, h => by
    refine oany_done ?_ h fuel
    cases hr : Region.ready .any ops S with
    | nil => rfl
    | cons i r =>
      have : i ∈ Region.ready .any ops S := by rw [hr]; simp
      obtain ⟨h1, h2, _⟩ := ready_iff.1 this
      have := (hs i h2).2 (by simp at hk; omega)
      rw [h1] at this
      cases this
  | o :: l, k, 0, S, a, w, hm, hk, hl, hS, hs, hf, h => by simp at hf
  | o :: l, k, fuel + 1, S, a, w, hm, hk, hl, hS, hs, hf, h => by
    simp only [List.length_cons] at hk hf
    have hks : k < ops.size := by omega
    have hkk : ops[k]? = some o := by have := hl 0 (by simp); simpa using this
    have hfalse : S.getD k true = false := by
      cases hb : S.getD k true with
      | false => rfl
      | true => have := (hs k hks).1 hb; omega
    have hset : ∀ j, j < ops.size → ((S.setIfInBounds k true).getD j true = true ↔ j < k + 1) := fun j hj => by
      rw [getD_set (by omega)]
      by_cases hjk : j = k
      · simp [hjk]
      · rw [if_neg hjk, hs j hj]
        omega
    have hgd : ∀ j, j < ops.size → S.getD j false = S.getD j true := fun j hj => by
      simp [show j < S.size by omega]
    refine ⟨fun hr => ?_, fun i hi => ?_⟩
    · have : k ∈ Region.ready .any ops S := ready_iff.2 ⟨hfalse, hks, fun j hj => by
        have := hok.less k hks j hj
        rw [hgd j (by omega)]
        exact (hs j (by omega)).2 this⟩
      rw [hr] at this
      cases this
    · obtain ⟨h1, h2, h3⟩ := ready_iff.1 hi
      have hik : i = k := by
        have hge : ¬ i < k := fun hlt => by
          have := (hs i h2).2 hlt
          rw [h1] at this
          cases this
        rcases Nat.lt_or_ge k i with hlt | hle
        · have hb := hok.last i k h2 (by omega) hlt
          have hdown : Down ops S := fun x hx j hj => by
            have hxs : x < ops.size := by
              rcases Nat.lt_or_ge x ops.size with h | h
              · exact h
              · rw [show S.getD x false = false by simp [show ¬ x < S.size by omega]] at hx
                cases hx
            have hlt2 := hok.less x hxs j hj
            rw [hgd j (by omega)]
            rw [hgd x hxs] at hx
            have := (hs x hxs).1 hx
            exact (hs j (by omega)).2 (by omega)
          have := clo_down hok hdown i k h2 hks hb h3
          rw [hgd k hks, hfalse] at this
          cases this
        · omega
      subst hik
      have hrec := fun (a' : Act) (w' : World) (h' : olist P ops Q l a' w') => oany_tail hok l (i + 1) fuel (S.setIfInBounds i true) a' w' (by omega) (by omega) (fun j hj => by
        have := hl (j + 1) (by simp; omega)
        rw [show i + 1 + j = i + (j + 1) by omega, this, List.getElem?_cons_succ]) (by simp [hS]) hset (by omega) h'
      unfold olist at h
      unfold oop
      simp only [hkk]
      split
      · rename_i hw
        rw [if_pos hw] at h
        exact owp_mono (fun a' w' h' => hrec a' w' h') h
      · rename_i hw
        rw [if_neg hw] at h
        exact hrec _ _ h
/-- Quiet operations in whatever order, then the others. -/
theorem oany_quiet {m : Nat} {N : NN} {Q : Exit → Act → World → Prop} (hok : DrawOk ops m) (hm : m ≤ ops.size) {vs : Nat → LV} {env0 : List (Nat × LV)} (hN : ∀ i, i < m → ∀ d, dstOf ops i = some d → d < N.k)
    (hv : ∀ i o, i < m → ops[i]? = some o → LQ P ops (envAt ops vs env0 i) H o (vs i)) {w0 : Base} {ph : PH} (l2 : List Oper) (hl2 : m + l2.length = ops.size) (hget : ∀ j, j < l2.length → ops[m + j]? = l2[j]?)
    (hend : ∀ ph' a w, PH.le ph ph' → Rels w0 ph' ⟨N, envAt ops vs env0 m, H⟩ a w → olist P ops Q l2 a w) :
    ∀ (fuel : Nat) (S : Array Bool) (a : Act) (w : World) (ph1 : PH), S.size = ops.size → Down ops S → (∀ i, m ≤ i → i < ops.size → S.getD i true = false) → left S (List.range ops.size) ≤ fuel → PH.le ph ph1 → Inv w0 ph1 w H → (a.defers = N.df ∧ (N.top = true → w0.ro = none)) → a.tmps.size = N.k → (∀ d, Rep ph1 (a.tmps.getD d undef) (slotAt ops vs env0 S d)) →
      oany P .any ops Q fuel S a w := by
  have hdst := fun i (hi : i < m) => hok.dst i (by omega) hi
  have hgd : ∀ {S : Array Bool}, S.size = ops.size → ∀ j, j < ops.size → S.getD j false = S.getD j true := fun hS j hj => by
    simp [show j < _ from hS ▸ hj]
  have full : ∀ (fuel : Nat) (S : Array Bool) (a : Act) (w : World) (ph1 : PH), S.size = ops.size → (∀ i, m ≤ i → i < ops.size → S.getD i true = false) → (∀ i, i < m → S.getD i true = true) → l2.length ≤ fuel → PH.le ph ph1 → Inv w0 ph1 w H → (a.defers = N.df ∧ (N.top = true → w0.ro = none)) → a.tmps.size = N.k → (∀ d, Rep ph1 (a.tmps.getD d undef) (slotAt ops vs env0 S d)) → oany P .any ops Q fuel S a w := by
    intro fuel S a w ph1 hS hlate hall hf hle hinv hd hsz hrep
    refine oany_tail (P := P) hok l2 m fuel S a w (Nat.le_refl _) hl2 hget hS (fun j hj => ⟨fun h => ?_, fun h => hall j h⟩) hf (hend ph1 a w hle ⟨hinv, hd, hsz, fun d => ?_⟩)
    · rcases Nat.lt_or_ge j m with h' | h'
      · exact h'
      · rw [hlate j h' hj] at h
        cases h
    · have := hrep d
      unfold slotAt at this
      rw [get_envAt vs env0 m hdst d m (Nat.le_refl _)]
      split
      · rename_i j hj
        rw [hj] at this
        simp only at this
        by_cases hjm : j < m
        · rw [if_pos hjm]
          have hjs : S.getD j false = true := by rw [hgd hS j (by omega)]; exact hall j hjm
          rw [if_pos hjs] at this
          exact this
        · rw [if_neg hjm]
          have hjn : j < ops.size := by
            have := List.mem_of_find?_eq_some hj
            simpa using this
          have hjs : ¬ S.getD j false = true := by rw [hgd hS j hjn, hlate j (by omega) hjn]; simp
          rw [if_neg hjs] at this
          exact this
      · rename_i hj
        rw [hj] at this
        exact this
  intro fuel
  induction fuel with
  | zero =>
    intro S a w ph1 hS hdn hlate hf hle hinv hd hsz hrep
    have hz := left_zero _ (Nat.le_zero.1 hf)
    have hall : ∀ i, i < ops.size → S.getD i true = true := fun i hi => hz i (List.mem_range.2 hi)
    have hl20 : l2.length = 0 := by
      rcases Nat.eq_zero_or_pos l2.length with h | h
      · exact h
      · have h1 := hall m (by omega)
        rw [hlate m (Nat.le_refl _) (by omega)] at h1
        cases h1
    exact full 0 S a w ph1 hS hlate (fun i hi => hall i (by omega)) (by omega) hle hinv hd hsz hrep
  | succ fuel ih =>
    intro S a w ph1 hS hdn hlate hf hle hinv hd hsz hrep
    by_cases hall : ∀ i, i < m → S.getD i true = true
    · have hcount : ∀ (l : List Nat), l.Nodup → (∀ i ∈ l, i < ops.size) → (l.filter fun i => decide (m ≤ i)).length ≤ left S l := by
        intro l
        induction l with
        | nil => intro _ _; simp
        | cons i l ihl =>
          intro hnd hlt
          have := ihl (List.nodup_cons.1 hnd).2 (fun j hj => hlt j (List.mem_cons_of_mem _ hj))
          simp only [left, List.filter_cons]
          by_cases him : m ≤ i
          · have := hlate i him (hlt i (by simp))
            simp only [him, decide_true, if_true, List.length_cons, this, Bool.false_eq_true, if_false]
            omega
          · simp only [him, decide_false, Bool.false_eq_true, if_false]
            omega
      have h1 := hcount (List.range ops.size) (List.nodup_range) (fun i hi => List.mem_range.1 hi)
      have h2 : ((List.range ops.size).filter fun i => decide (m ≤ i)).length = l2.length := by
        have : ∀ (n : Nat), ((List.range n).filter fun i => decide (m ≤ i)).length = n - m := by
          intro n
          induction n with
          | zero => simp
          | succ n ihn =>
            rw [List.range_succ, List.filter_append, List.length_append, ihn]
            by_cases h : m ≤ n
            · simp [h]; omega
            · simp [h]; omega
        rw [this]
        omega
      exact full (fuel + 1) S a w ph1 hS hlate hall (by omega) hle hinv hd hsz hrep
    · have hnone : ∃ i, i < m ∧ S.getD i true = false ∧ ∀ j, j < i → S.getD j true = true := by
        have hex : ∃ i, i < m ∧ S.getD i true = false := by
          refine Classical.byContradiction fun hn => hall fun i hi => ?_
          cases hb : S.getD i true with
          | true => rfl
          | false => exact (hn ⟨i, hi, hb⟩).elim
        obtain ⟨i, ⟨hi, hb⟩, hmin⟩ := exists_least hex
        refine ⟨i, hi, hb, fun j hj => ?_⟩
        cases hb' : S.getD j true with
        | true => rfl
        | false => have := hmin j ⟨by omega, hb'⟩; omega
      obtain ⟨i0, hi0, hb0, hmin⟩ := hnone
      refine ⟨fun hr => ?_, fun i hi => ?_⟩
      · have : i0 ∈ Region.ready .any ops S := ready_iff.2 ⟨hb0, by omega, fun j hj => by
          have := hok.less i0 (by omega) j hj
          rw [hgd hS j (by omega)]
          exact hmin j this⟩
        rw [hr] at this
        cases this
      · obtain ⟨h1, h2, h3⟩ := ready_iff.1 hi
        have him : i < m := by
          rcases Nat.lt_or_ge i m with h | h
          · exact h
          · have := clo_down hok hdn i i0 h2 (by omega) (hok.last i i0 h2 h (by omega)) h3
            rw [hgd hS i0 (by omega), hb0] at this
            cases this
        obtain ⟨d, hdi, hwd⟩ := hdst i him
        have hoi : ops[i]? = some ops[i] := Array.getElem?_eq_getElem h2
        have hq := hv i ops[i] him hoi
        have hdo : (ops[i]).dst = some d := by simpa [dstOf, hoi] using hdi
        have hSi : i < S.size := by omega
        have hlooks : ∀ t ∈ (ops[i]).looksAt ops, Rep ph1 (a.tmps.getD t undef) (get (envAt ops vs env0 i) t) := fun t ht => by
          have := hrep t
          unfold slotAt at this
          rw [get_envAt vs env0 m hdst t i (by omega)]
          split
          · rename_i k hk
            rw [hk] at this
            simp only at this
            have hkn : k < ops.size := by
              have := List.mem_of_find?_eq_some hk
              simpa using this
            rcases hok.looks i ops[i] him hoi t ht k hk with rfl | ⟨hlt, hb⟩ | ⟨hlt, hb⟩
            · rw [if_neg (by omega)]
              rwa [if_neg (by rw [hgd hS k h2, h1]; simp)] at this
            · rw [if_pos hlt]
              rwa [if_pos (clo_down hok hdn i k h2 hkn hb h3)] at this
            · rw [if_neg (by omega)]
              have hkf : ¬ S.getD k false = true := fun hkt => by
                have := clo_down hok hdn k i hkn h2 hb (hdn k hkt)
                rw [hgd hS i h2, h1] at this
                cases this
              rwa [if_neg hkf] at this
          · rename_i hk
            rw [hk] at this
            exact this
        have hstep : ∀ (ph2 : PH) (u : Value) (w' : World), PH.le ph1 ph2 → Inv w0 ph2 w' H → Rep ph2 u (vs i) → oany P .any ops Q fuel (S.setIfInBounds i true) (a.put (ops[i]).dst u) w' := fun ph2 u w' hle2 hinv2 hru => by
          refine ih (S.setIfInBounds i true) _ w' ph2 (by simp [hS]) (fun x hx j hj => ?_) (fun j hj1 hj2 => ?_) ?_ (hle.trans hle2) hinv2 (by rw [put_defers]; exact hd) (by rw [put_size]; exact hsz) (fun t => ?_)
          · rw [getD_set hSi] at hx ⊢
            by_cases hji : j = i
            · rw [if_pos hji]
            · rw [if_neg hji]
              by_cases hxi : x = i
              · subst hxi
                exact h3 j hj
              · rw [if_neg hxi] at hx
                exact hdn x hx j hj
          · rw [getD_set hSi, if_neg (by omega)]
            exact hlate j hj1 hj2
          · have := left_lt hSi h1 (List.range ops.size) (List.mem_range.2 h2)
            omega
          · rw [hdo]
            unfold slotAt
            by_cases htd : d = t
            · subst htd
              rw [hwd]
              simp only [getD_set hSi, if_true]
              have : d < a.tmps.size := by rw [hsz]; exact hN i him d hdi
              simpa [Act.put, this] using hru
            · have hr' := (hrep t).mono hle2
              have hput : (a.put (some d) u).tmps.getD t undef = a.tmps.getD t undef := by
                simp [Act.put, Array.getElem?_setIfInBounds_ne htd, Array.getD_eq_getD_getElem?]
              rw [hput]
              unfold slotAt at hr'
              split
              · rename_i k hk
                rw [hk] at hr'
                simp only at hr'
                rw [getD_set hSi]
                by_cases hki : k = i
                · subst hki
                  have : dstOf ops k = some t := by
                    have := List.find?_some hk
                    simpa using this
                  rw [hdi] at this
                  injection this with this
                  exact (htd this).elim
                · rw [if_neg hki]
                  exact hr'
              · rename_i hk
                rw [hk] at hr'
                exact hr'
        have hmain := hq w0 ph1 a w hinv hlooks (oany P .any ops Q fuel (S.setIfInBounds i true)) Q (fun ph2 u w' h1 h2 h3 => hstep ph2 u w' h1 h2 h3)
        unfold oop
        simp only [hoi]
        split
        · rename_i hw
          rw [if_pos hw] at hmain
          exact hmain
        · rename_i hw
          rw [if_neg hw] at hmain
          exact hmain
/-- A region that draws its order: l1 in whatever order, then l2. -/
theorem LW.draw {id : Nat} {l l1 l2 : List Oper} {st : LS} {env' : List (Nat × LV)} {Q : Exit → LS → Prop} (hmo : P.follows .mixedOrders = true) (hl : l = l1 ++ l2) (hok : drawOk l.toArray l1.length = true) (hn : (l1.all fun o => match o.dst with | some d => Nat.blt d st.n.k | none => false) = true)
    (hc : QC P l.toArray st.heap st.env l1 env') (h : LL P l.toArray l2 ⟨st.n, env', st.heap⟩ (fun s => Q .normal s)) (hnd : noDefer l = true := by kernel_rfl) : LW P (.region id l.toArray true) st Q := fun w0 ph a w r Q' k => by
  subst hl
  have hdok := DrawOk.of hok
  obtain ⟨vs, _, hvs⟩ := hc.values l1 (k := 0) (fun j hj => by simp [List.getElem?_append_left hj]) (fun _ => .any)
  obtain ⟨hv, he⟩ := hvs st.env rfl
  rw [Nat.zero_add] at he
  refine wpIn_region_any hmo (oany_in (by simpa using hnd) _ ?_)
  have hget0 : ∀ j, (Array.replicate (l1 ++ l2).toArray.size false).getD j false = false := fun j => by
    simp [Array.getElem?_replicate]
    split <;> rfl
  refine oany_quiet (P := P) (H := st.heap) (N := st.n) (vs := vs) (env0 := st.env) (w0 := w0) (ph := ph) hdok (by simp) (fun i hi d hd => ?_) (fun i o hi ho => hv i o (Nat.zero_le _) (by omega) ho) l2 (by simp) (fun j hj => by simp [List.getElem?_append_right]) (fun ph' a' w' hle r' => ?_) _ _ a _ ph (by simp) (fun i hi => by rw [hget0] at hi; cases hi) (fun i h1 h2 => by
    have h3 : i < l1.length + l2.length := by simpa using h2
    simp [h3]) ?_ (PH.le.refl _) (r.inv.step ⟨rfl, rfl, rfl, Nat.le_refl _, fun _ _ => rfl⟩) r.defers r.size (fun d => ?_)
  · have h1 : l1[i]? = some l1[i] := List.getElem?_eq_getElem hi
    have := List.all_eq_true.1 hn l1[i] (List.getElem_mem hi)
    simp only [dstOf, List.getElem?_toArray, List.getElem?_append_left hi, h1, Option.bind_some] at hd
    rw [hd] at this
    simpa [Nat.blt_eq] using this
  · rw [he] at r'
    exact h w0 ph' a' w' r' Q' (fun ph2 st2 a2 w2 hle2 r2 q2 => k _ ph2 st2 a2 w2 (hle.trans hle2) r2 q2)
  · have : ∀ (l : List Nat) (S : Array Bool), left S l ≤ l.length := by
      intro l S
      induction l with
      | nil => exact Nat.le_refl _
      | cons i l ih =>
        simp only [left, List.length_cons]
        split <;> omega
    have := this (List.range (l1 ++ l2).toArray.size) (Array.replicate (l1 ++ l2).toArray.size false)
    simpa using this
  · have := r.tmps d
    unfold slotAt
    split
    · rw [if_neg (by rw [hget0]; simp)]
      exact this
    · exact this
end
end Go.L
namespace Go.L
open Go.RowKit
theorem Is.whenN {b : Bool} {x : LV} (h : b = false) : Is (.when (!b) x) x := Is.whenE (by rw [h]; rfl)
theorem wrap_i64 {a : Int} (h0 : -9223372036854775808 ≤ a) (h1 : a < 9223372036854775808) : IntKind.i64.wrap a = a := by rw [IntKind.wrap_i64]; omega
theorem ones {cs : Array Value} (h : cs.toList.all (·.oneCell') = true) : ∀ (i : Nat) (c : Value), cs[i]? = some c → c.oneCell' = true := fun i c hc => List.all_eq_true.1 h c (by simpa using Array.mem_of_getElem? hc)
theorem Part.whole {size : Nat} {cs : List LV} (h : cs.length = size) : Part size true cs 0 (.agg cs) := ⟨by omega, by rw [List.drop_zero, List.take_of_length_le (by omega)]⟩
theorem Part.sub {size off : Nat} {cs : List LV} (h : off + size ≤ cs.length) : Part size true cs off (.agg ((cs.drop off).take size)) := ⟨h, rfl⟩
theorem Part.one {size off : Nat} {cs : List LV} {v : LV} (h : cs[off]? = some v) : Part size false cs off v := h
theorem byteEls_length (l : List UInt8) : (byteEls l).length = l.length := by simp [byteEls]
/-- Whole numbers, as0 elements. -/
def intEls (l : List Int) : List (List LV) := l.map fun x => [.raw (.int .i64 x)]
theorem intEls_length (l : List Int) : (intEls l).length = l.length := by simp [intEls]
section
variable {P : Program} {env : List (Nat × LV)} {H : List Atom} {d : Option Tmp} {ty : TypeId} {pos : String} {af : Array Edge} {g : Option (Nat × Bool)} {st : LS} {K : LS → Prop}
theorem LU.moveR {x : Operand} {v : Value} (h : Is (ev env x) (.raw v)) : LU P env H ⟨d, .move x, ty, pos, af, g⟩ (.raw v) := .move h
theorem LU.moveS {x : Operand} {s : Nat} {es : List (List LV)} {k : Cap} (h : Is (ev env x) (.sl s es k)) : LU P env H ⟨d, .move x, ty, pos, af, g⟩ (.sl s es k) := .move h
theorem LU.moveT {x : Operand} {cs : List LV} (h : Is (ev env x) (.tup cs)) : LU P env H ⟨d, .move x, ty, pos, af, g⟩ (.tup cs) := .move h
theorem LU.assignR {x : Operand} {v : Value} (h : Is (ev env x) (.raw v)) : LU P env H ⟨d, .assign x, ty, pos, af, g⟩ (.raw v) := .assign h
theorem LU.assignS {x : Operand} {s : Nat} {es : List (List LV)} {k : Cap} (h : Is (ev env x) (.sl s es k)) : LU P env H ⟨d, .assign x, ty, pos, af, g⟩ (.sl s es k) := .assign h
theorem LU.addN {x y : Operand} {t t' : TypeId} {k : IntKind} {a b c : Int} (hx : Is (ev env x) (.raw (.int k a))) (hy : Is (ev env y) (.raw (.int k b))) (hw : k.wrap (a + b) = c) : LU P env H ⟨d, .binOp .add t x y t', ty, pos, af, g⟩ (.raw (.int k c)) := hw ▸ .add hx hy
theorem LU.subN {x y : Operand} {t t' : TypeId} {k : IntKind} {a b c : Int} (hx : Is (ev env x) (.raw (.int k a))) (hy : Is (ev env y) (.raw (.int k b))) (hw : k.wrap (a - b) = c) : LU P env H ⟨d, .binOp .sub t x y t', ty, pos, af, g⟩ (.raw (.int k c)) := hw ▸ .sub hx hy
theorem LU.lenN {x : Operand} {t e : TypeId} {size n : Nat} {es : List (List LV)} {k : Cap} (ht : P.underlying t = some (.slice e)) (hx : Is (ev env x) (.sl size es k)) (hn : es.length = n) : LU P env H ⟨d, .call { callee := .builtin .len, args := #[x], argTypes := #[t] }, ty, pos, af, g⟩ (.raw (.int .i64 n)) := hn ▸ .len ht hx
/-- The elements of a literal, in their order. -/
def Elems (env : List (Nat × LV)) : Nat → List (Nat × Operand) → List (List LV) → Prop
  | _, [], [] => True
  | k, (i, x) :: ps, c :: es => i = k ∧ (∃ v, Is (ev env x) v ∧ Cells v c) ∧ Elems env (k + 1) ps es
  | _, _, _ => False
/-- A call that reads what is owned. -/
theorem LU.call1 {f : FuncId} {fn : Func} {as0 : Array Operand} {ts : Array TypeId} {vs : List LV} {v : LV} {a : Atom} (k : Nat) (hk : H[k]? = some a) (hc : LCalls P f vs [a] (fun r H' => r = v ∧ H' = [a])) (hf : P.funcs[f]? = some fn) (hname : (fn.name == "runtime.NumGoroutine") = false) (hb : fn.body.isSome = true) (ha : Opds env as0.toList vs) :
    LU P env H ⟨d, .call { callee := .value (.func f), args := as0, argTypes := ts }, ty, pos, af, g⟩ v := fun w0 ph ac w hi hl N Q kk => by
  have hargs := ha.reps (a := ac) (ph := ph) (fun x hx => hl x (by simp only [Op.operands, Call.operands]; exact Array.mem_append.2 (.inr (by simpa using hx))))
  have hrun : (execOp ac.eval ⟨d, .call { callee := .value (.func f), args := as0, argTypes := ts }, ty, pos, af, g⟩).run P w = .ok (.enter f (as0.map ac.eval)) w := by
    simp [execOp, resolve, Deferred.ofValue, invoke, Act.eval, enters hf hname hb]
  unfold owp
  rw [hrun]
  refine upon_enter ?_
  have hfr : L.front k H = [a] ++ H.eraseIdx k := by unfold L.front; rw [hk]; rfl
  have hperm := front_perm k H
  rw [hfr] at hperm
  refine (hc (H.eraseIdx k) w0 ph w (as0.map ac.eval) ((HSub.perm hperm).app hi) (by rw [map_arr ac.eval as0]; exact hargs)).mono ?_
  rintro e w' ⟨u, ph', x, H', rfl, hle, hi', hx, rfl, rfl⟩
  exact kk ph' _ w' hle ((HSub.perm hperm.symm).app hi') hx
/-- The same of more things. -/
theorem LU.callP {f : FuncId} {fn : Func} {as0 : Array Operand} {ts : Array TypeId} {vs : List LV} {v : LV} {Hc R : List Atom} (hp : H.Perm (Hc ++ R)) (hc : LCalls P f vs Hc (fun r H' => r = v ∧ H' = Hc)) (hf : P.funcs[f]? = some fn) (hname : (fn.name == "runtime.NumGoroutine") = false) (hb : fn.body.isSome = true) (ha : Opds env as0.toList vs) :
    LU P env H ⟨d, .call { callee := .value (.func f), args := as0, argTypes := ts }, ty, pos, af, g⟩ v := fun w0 ph ac w hi hl N Q kk => by
  have hargs := ha.reps (a := ac) (ph := ph) (fun x hx => hl x (by simp only [Op.operands, Call.operands]; exact Array.mem_append.2 (.inr (by simpa using hx))))
  have hrun : (execOp ac.eval ⟨d, .call { callee := .value (.func f), args := as0, argTypes := ts }, ty, pos, af, g⟩).run P w = .ok (.enter f (as0.map ac.eval)) w := by
    simp [execOp, resolve, Deferred.ofValue, invoke, Act.eval, enters hf hname hb]
  unfold owp
  rw [hrun]
  refine upon_enter ?_
  refine (hc R w0 ph w (as0.map ac.eval) ((HSub.perm hp).app hi) (by rw [map_arr ac.eval as0]; exact hargs)).mono ?_
  rintro e w' ⟨u, ph', x, H', rfl, hle, hi', hx, rfl, rfl⟩
  exact kk ph' _ w' hle ((HSub.perm hp.symm).app hi') hx
theorem hsub_front {a : Atom} {k : Nat} (hk : H[k]? = some a) : HSub H ([a] ++ H.eraseIdx k) := by
  have hfr : L.front k H = [a] ++ H.eraseIdx k := by unfold L.front; rw [hk]; rfl
  have := front_perm k H
  rw [hfr] at this
  exact HSub.perm this
theorem LO.call1 {f : FuncId} {fn : Func} {as0 : Array Operand} {ts : Array TypeId} {vs : List LV} {post : LV → List Atom → Prop} {d : Tmp} {a : Atom} (k : Nat) (hk : st.heap[k]? = some a) (hc : LCalls P f vs [a] post) (hf : P.funcs[f]? = some fn) (hname : (fn.name == "runtime.NumGoroutine") = false) (hb : fn.body.isSome = true) (hd : Nat.blt d st.n.k = true) (ha : Opds st.env as0.toList vs)
    (h : ∀ r H', post r H' → K ⟨st.n, (d, r) :: st.env, H' ++ st.heap.eraseIdx k⟩) : LO P ⟨some d, .call { callee := .value (.func f), args := as0, argTypes := ts }, ty, pos, af, g⟩ st K := LO.call hc hf hname hb hd (hsub_front hk) ha h
theorem Elems.nil {k : Nat} : Elems env k [] [] := trivial
theorem Elems.cons {k : Nat} {x : Operand} {v : LV} {c : List LV} {ps : List (Nat × Operand)} {es : List (List LV)} (h : Is (ev env x) v) (hc : Cells v c) (r : Elems env (k + 1) ps es) : Elems env k ((k, x) :: ps) (c :: es) := ⟨rfl, ⟨v, h, hc⟩, r⟩
theorem Elems.laid {size : Nat} : ∀ {ps : List (Nat × Operand)} {es : List (List LV)} {k : Nat} {pre rest : List LV}, Elems env k ps es → (∀ e ∈ es, e.length = size) → pre.length = k * size → rest.length = es.length * size → ∃ qs, Parts env ps qs ∧ L.laid (fun i => some (i * size, size)) (pre ++ rest) qs = some (pre ++ es.flatten)
  | [], [], k, pre, rest, _, _, _, hr => ⟨[], trivial, by
      obtain rfl : rest = [] := List.eq_nil_of_length_eq_zero (by simpa using hr)
      simp [L.laid]⟩
  | (i, x) :: ps, c :: es, k, pre, rest, ⟨hik, hv, hE⟩, hs, hp, hr => by
    subst hik
    have hc := hs c (by simp)
    simp only [List.length_cons, Nat.succ_mul] at hr
    have hput : putAt (pre ++ rest) (i * size) c = (pre ++ c) ++ rest.drop size := by
      unfold putAt
      rw [List.take_append_of_le_length (by omega), List.take_of_length_le (by omega), List.drop_append]
      rw [List.drop_of_length_le (by omega), List.nil_append, hp, hc, Nat.add_sub_cancel_left]
    obtain ⟨qs, h1, h2⟩ := Elems.laid (pre := pre ++ c) (rest := rest.drop size) hE (fun e he => hs e (List.mem_cons_of_mem _ he)) (by rw [List.length_append, hp, hc, Nat.succ_mul]) (by rw [List.length_drop]; omega)
    refine ⟨(i, c) :: qs, ⟨rfl, hv, h1⟩, ?_⟩
    have hcond : (Nat.beq c.length size && Nat.ble (i * size + c.length) (pre ++ rest).length) = true := by
      rw [Bool.and_eq_true]
      exact ⟨by rw [hc]; exact Nat.beq_refl _, Nat.ble_eq_true_of_le (by rw [List.length_append]; omega)⟩
    simp only [L.laid, hcond, cond_true, hput]
    rw [h2, List.flatten_cons, List.append_assoc]
  | [], _ :: _, _, _, _, h, _, _, _ => h.elim
  | _ :: _, [], _, _, _, h, _, _, _ => h.elim
/-- []T{a, b, ..} -/
theorem LU.lits {t e : TypeId} {n size : Nat} {ps : Array (Nat × Operand)} {es : List (List LV)} {z : Value} (ht : P.underlying t = some (.slice e)) (hs : ∀ w, (sizeOf e).run P w = .ok size w) (hz : ∀ w, (zeroValue e).run P w = .ok z w) (hz1 : ∀ (i : Nat) (c : Value), z.cells[i]? = some c → c.oneCell' = true) (hzs : z.cells.size = size) (hs0 : 0 < size) (hn : n * size ≤ 16777216)
    (hp : Elems env 0 ps.toList es) (hes : ∀ e ∈ es, e.length = size) (hen : es.length = n) : LU P env H ⟨d, .buildSlice t n ps, ty, pos, af, g⟩ (.sl size es .full) := by
  have hzl : ((List.replicate n (raws z.cells.toList)).flatten).length = n * size := by simp [raws, hzs]
  obtain ⟨qs, h1, h2⟩ := Elems.laid (pre := []) (rest := (List.replicate n (raws z.cells.toList)).flatten) hp hes (by simp) (by rw [hzl, hen])
  have := LU.lit (P := P) (H := H) (d := d) (ty := ty) (pos := pos) (af := af) (g := g) ht hs hz hz1 hzs hs0 hn h1 h2
  rw [List.nil_append, ← List.append_nil es.flatten, chunks_flat size es n [] hen hes] at this
  exact this
theorem Opds.nil : Opds env [] [] := trivial
theorem Opds.cons {x : Operand} {v : LV} {xs : List Operand} {vs : List LV} (h : Is (ev env x) v) (k : Opds env xs vs) : Opds env (x :: xs) (v :: vs) := ⟨h, k⟩
theorem Parts.nil : Parts env [] [] := trivial
theorem Parts.cons {i : Nat} {x : Operand} {v : LV} {c : List LV} {ps : List (Nat × Operand)} {qs : List (Nat × List LV)} (h : Is (ev env x) v) (hc : Cells v c) (k : Parts env ps qs) : Parts env ((i, x) :: ps) ((i, c) :: qs) := ⟨rfl, ⟨v, h, hc⟩, k⟩
def EqR (P : Program) (n : Nat) (t : TypeId) (x y : Value) (b : Bool) : Prop := ∀ d w, (Op.equalIn (d + n) t x y).run P w = .ok b w
theorem EqR.int {t : TypeId} {k k' : IntKind} {a b : Int} (h : P.underlying t = some (.int k')) : EqR P 1 t (.int k a) (.int k b) (decide (a = b)) := fun d w => by rw [run_equalIn_int w d t k k' a b h, beq_dec]
theorem EqR.bool {t : TypeId} {a b : Bool} (h : P.underlying t = some .bool) : EqR P 1 t (.bool a) (.bool b) (a == b) := fun d w => run_equalIn_bool' w d t a b h
theorem EqR.string {t : TypeId} {a b : ByteArray} (h : P.underlying t = some .string) : EqR P 1 t (.string a) (.string b) (a.toList == b.toList) := fun d w => run_equalIn_string w d t a b h
theorem EqR.up {n : Nat} {t : TypeId} {x y : Value} {b : Bool} (k : Nat) (h : EqR P n t x y b) : EqR P (n + k) t x y b := fun d w => by
  rw [show d + (n + k) = (d + k) + n by omega]
  exact h _ w
inductive RawL : List LV → List Value → Prop where
  | nil : RawL [] []
  | cons {v : Value} {l : List LV} {vs : List Value} (h : RawL l vs) : RawL (.raw v :: l) (v :: vs)
theorem RawL.eq : ∀ {l : List LV} {vs : List Value}, RawL l vs → l = raws vs
  | _, _, .nil => rfl
  | _, _, .cons h => by rw [h.eq]; rfl
theorem RawL.raws : ∀ (vs : List Value), RawL (L.raws vs) vs
  | [] => .nil
  | v :: vs => .cons (RawL.raws vs)
inductive EqFs (P : Program) (n : Nat) (xs ys : Array Value) : List Field → Bool → Prop where
  | nil : EqFs P n xs ys [] true
  | one {f : Field} {u v : Value} {b : Bool} (hn : (f.name != "_") = true) (hu : ∀ w, (part f.type xs f.offset).run P w = .ok u w) (hv : ∀ w, (part f.type ys f.offset).run P w = .ok v w) (he : EqR P n f.type u v b) : EqFs P n xs ys [f] b
  | cons {f : Field} {fs : List Field} {u v : Value} {b c : Bool} (hn : (f.name != "_") = true) (hu : ∀ w, (part f.type xs f.offset).run P w = .ok u w) (hv : ∀ w, (part f.type ys f.offset).run P w = .ok v w) (he : EqR P n f.type u v b) (h : EqFs P n xs ys fs c) : EqFs P n xs ys (f :: fs) (b && c)
theorem EqFs.run {n : Nat} {xs ys : Array Value} : ∀ {fs : List Field} {b : Bool}, EqFs P n xs ys fs b → ∀ d w, (Op.eqFields (d + n) xs ys fs).run P w = .ok b w
  | _, _, .nil, d, w => rfl
  | _, _, .one (b := b) hn hu hv he, d, w => by
    have hn' := by simpa using hn
    simp only [Op.eqFields, ne_eq, hn', not_false_eq_true, if_true, Sem.run_bind, hu, hv, Result.andThen_ok, he d w]
    cases b <;> rfl
  | _, _, .cons (b := b) hn hu hv he h, d, w => by
    have hn' := by simpa using hn
    simp only [Op.eqFields, ne_eq, hn', not_false_eq_true, if_true, Sem.run_bind, hu, hv, Result.andThen_ok, he d w]
    cases b
    · rfl
    · simpa using EqFs.run h d w
theorem EqR.struct {n : Nat} {t : TypeId} {fs : Array Field} {xs ys : Array Value} {b : Bool} (ht : P.underlying t = some (.struct fs)) (hp : P.stoodInHeld t = false) (h : EqFs P n xs ys fs.toList b) : EqR P (n + 1) t (.agg xs) (.agg ys) b := fun d w => by
  have hf : P.fieldsOf t = fs := by simp [Program.fieldsOf, ht]
  rw [show d + (n + 1) = (d + n) + 1 by omega, run_equalIn_struct w (d + n) t xs ys (by rw [hf]; exact ht) hp, hf]
  exact h.run d w
theorem part_one {t : TypeId} (ht : ∀ w, (isAgg t).run P w = .ok false w) {cs : Array Value} {off : Nat} {v : Value} (h : cs[off]? = some v) (w : World) : (part t cs off).run P w = .ok v w := by
  obtain ⟨h1, h2⟩ := Array.getElem?_eq_some_iff.1 h
  simp [part, ht, h1, h2]
theorem part_agg {t : TypeId} {size : Nat} (hs : ∀ w, (sizeOf t).run P w = .ok size w) (ht : ∀ w, (isAgg t).run P w = .ok true w) {cs : Array Value} {off : Nat} {c : Array Value} (h : cs.extract off (off + size) = c) (w : World) : (part t cs off).run P w = .ok (.agg c) w := by
  simp [part, ht, hs, h]
theorem LU.eqlA {x y : Operand} {t t' : TypeId} {cs ds : List LV} {vs us : List Value} {n : Nat} {b : Bool} (hx : Is (ev env x) (.agg cs)) (hy : Is (ev env y) (.agg ds)) (rx : RawL cs vs) (ry : RawL ds us) (hg : P.eqGuardType P.depth t = false) (hn : Nat.ble n 10000 = true) (he : EqR P n t (.agg vs.toArray) (.agg us.toArray) b) : LU P env H ⟨d, .binOp .eql t x y t', ty, pos, af, g⟩ (.raw (.bool b)) := by
  rw [rx.eq] at hx
  rw [ry.eq] at hy
  exact .raw fun ac hl w => by
    have h1 := hl x (by simp [Op.operands]) _ (hx.trans Is.agg_raw)
    have h2 := hl y (by simp [Op.operands]) _ (hy.trans Is.agg_raw)
    have hn' := Nat.le_of_ble_eq_true hn
    have h3 := he (10000 - n) w
    rw [show 10000 - n + n = 10000 by omega] at h3
    simp only [execOp, h1, h2, Sem.run_bind, run_eqGuard_agg w .eql t x y _ _ hg, Result.andThen_ok, run_eql_struct, h3, Sem.run_pure]
theorem LU.neqA {x y : Operand} {t t' : TypeId} {cs ds : List LV} {vs us : List Value} {n : Nat} {b : Bool} (hx : Is (ev env x) (.agg cs)) (hy : Is (ev env y) (.agg ds)) (rx : RawL cs vs) (ry : RawL ds us) (hg : P.eqGuardType P.depth t = false) (hn : Nat.ble n 10000 = true) (he : EqR P n t (.agg vs.toArray) (.agg us.toArray) b) : LU P env H ⟨d, .binOp .neq t x y t', ty, pos, af, g⟩ (.raw (.bool (!b))) := by
  rw [rx.eq] at hx
  rw [ry.eq] at hy
  exact .raw fun ac hl w => by
    have h1 := hl x (by simp [Op.operands]) _ (hx.trans Is.agg_raw)
    have h2 := hl y (by simp [Op.operands]) _ (hy.trans Is.agg_raw)
    have hn' := Nat.le_of_ble_eq_true hn
    have h3 := he (10000 - n) w
    rw [show 10000 - n + n = 10000 by omega] at h3
    simp only [execOp, h1, h2, Sem.run_bind, run_eqGuard_agg w .neq t x y _ _ hg, Result.andThen_ok, run_neq_struct, h3, Sem.run_pure]
theorem Res.cell1 {a : Tmp} {ta : TypeId} {st : LS} {b off : Nat} {tb : TypeId} {xs : List LV} {size : Nat} {agg : Bool} {v r : LV} (k : Nat) (hk : st.heap[k]? = some (.cells b tb xs)) (ha : get st.env a = .raw (.pointer (some ⟨b, off, Option.none⟩))) (ht : Ty P ta size agg) (hv : Part size agg xs off v) (hr : Is v r) : Res P #[.cell a ta] st r := fun w0 ph ac w fn h rl => by
  obtain ⟨F, hF, cs, hh, hc⟩ := rl.inv.atom_at hk
  have h1 := rl.tmps a
  rw [ha] at h1
  obtain ⟨z, hrun, hrep⟩ := creps_part (P := P) hc ht hv (w := w) (b := b) (fun i c hi => by rw [cell_of_row w b i cs tb (0, 0) hh]; exact hi)
  exact ⟨z, by
    have h2 := h1.rawE
    rw [Array.getD_eq_getD_getElem?] at h2
    simp [results, h, h2, asAddr, hrun], hr _ _ hrep⟩
/-- Quiet operations of a region that draws its order. -/
def QD (P : Program) (ops : Array Oper) (H : List Atom) (n : NN) (env : List (Nat × LV)) (l : List Oper) (K : List (Nat × LV) → Prop) : Prop := ∃ env', QC P ops H env l env' ∧ (l.all fun o => match o.dst with | some d => Nat.blt d n.k | none => false) = true ∧ K env'
theorem QD.nil {ops : Array Oper} {n : NN} {K : List (Nat × LV) → Prop} (h : K env) : QD P ops H n env [] K := ⟨env, .nil _, rfl, h⟩
theorem QD.q {ops : Array Oper} {n : NN} {K : List (Nat × LV) → Prop} {o : Oper} {l : List Oper} {v : LV} {d : Nat} (hq : LQ P ops env H o v) (hd : o.dst = some d) (hds : Nat.blt d n.k = true) (h : QD P ops H n ((d, v) :: env) l K) : QD P ops H n env (o :: l) K := by
  obtain ⟨e, h1, h2, h3⟩ := h
  exact ⟨e, .cons hq hd h1, by simp only [List.all_cons, hd, hds, h2, Bool.and_self], h3⟩
theorem QD.u {ops : Array Oper} {n : NN} {K : List (Nat × LV) → Prop} {l : List Oper} {v : LV} {d : Nat} {op : Op} (hq : LU P env H ⟨some d, op, ty, pos, af, none⟩ v) (hds : Nat.blt d n.k = true) (h : QD P ops H n ((d, v) :: env) l K) : QD P ops H n env (⟨some d, op, ty, pos, af, none⟩ :: l) K := .q (.plain rfl hq) rfl hds h
theorem QD.gT {ops : Array Oper} {n : NN} {K : List (Nat × LV) → Prop} {l : List Oper} {v : LV} {d j dj : Nat} {op : Op} {b : Bool} (hd : (ops[j]?).bind (·.dst) = some dj) (hb : get env dj = .raw (.bool b)) (hq : b = true → LU P env H ⟨some d, op, ty, pos, af, some (j, true)⟩ v) (hds : Nat.blt d n.k = true) (h : QD P ops H n ((d, .when b v) :: env) l K) : QD P ops H n env (⟨some d, op, ty, pos, af, some (j, true)⟩ :: l) K := .q (.guardT rfl hd hb hq) rfl hds h
theorem QD.gF {ops : Array Oper} {n : NN} {K : List (Nat × LV) → Prop} {l : List Oper} {v : LV} {d j dj : Nat} {op : Op} {b : Bool} (hd : (ops[j]?).bind (·.dst) = some dj) (hb : get env dj = .raw (.bool b)) (hq : b = false → LU P env H ⟨some d, op, ty, pos, af, some (j, false)⟩ v) (hds : Nat.blt d n.k = true) (h : QD P ops H n ((d, .when (!b) v) :: env) l K) : QD P ops H n env (⟨some d, op, ty, pos, af, some (j, false)⟩ :: l) K := .q (.guardF rfl hd hb hq) rfl hds h
theorem LW.drawM (m : Nat) {id : Nat} {l : List Oper} {Q : Exit → LS → Prop} (hmo : P.follows .mixedOrders = true) (hok : drawOk l.toArray m = true) (hm : Nat.ble m l.length = true) (h : QD P l.toArray st.heap st.n st.env (l.take m) fun env' => LL P l.toArray (l.drop m) ⟨st.n, env', st.heap⟩ (fun s => Q .normal s)) (hnd : noDefer l = true := by kernel_rfl) : LW P (.region id l.toArray true) st Q := by
  obtain ⟨env', h1, h2, h3⟩ := h
  have hlen : (l.take m).length = m := by rw [List.length_take]; have := Nat.le_of_ble_eq_true hm; omega
  exact LW.draw hmo (List.take_append_drop m l).symm (by rw [hlen]; exact hok) h2 h1 h3 hnd
/-- How a body ends. -/
theorem Ends.ret {rs : Array ResultVar} {R H' : List Atom} {post : LV → List Atom → Prop} {r : LV} (hr : Res P rs st r) (hh : HSub st.heap (H' ++ R)) (hp : post r H') (hd : st.n.df = []) : Ends P rs R post .ret st := ⟨.inr rfl, .plain hd hr hh hp⟩
theorem Ends.normal {rs : Array ResultVar} {R H' : List Atom} {post : LV → List Atom → Prop} {r : LV} (hr : Res P rs st r) (hh : HSub st.heap (H' ++ R)) (hp : post r H') (hd : st.n.df = []) : Ends P rs R post .normal st := ⟨.inl rfl, .plain hd hr hh hp⟩
end
end Go.L
namespace Go.L
open Go.RowKit
theorem IsR {x : LV} {v : Value} (h : x = .raw v) : Is x (.raw v) := .of h
theorem IsA {x : LV} {cs : List LV} (h : x = .agg cs) : Is x (.agg cs) := .of h
theorem IsS {x : LV} {size : Nat} {es : List (List LV)} {k : Cap} (h : x = .sl size es k) : Is x (.sl size es .unk) := (Is.of h).trans Is.unk
theorem asB {x : LV} {b c : Bool} (h : x = .raw (.bool b)) (hb : b = c) : Is x (.raw (.bool c)) := .of (by rw [h, hb])
theorem HSub.pick {a : Atom} {H K : List Atom} (k : Nat) (hk : H[k]? = some a) (h : HSub (H.eraseIdx k) K) : HSub H (a :: K) := (hsub_front hk).trans (HSub.cons h)
namespace X
section
variable {P : Program} {ops : Array Oper} {n : NN} {env : List (Nat × LV)} {H : List Atom} {K : LS → Prop} {l : List Oper} {ty : TypeId} {pos : String} {af : Array Edge} {g : Option (Nat × Bool)}
theorem u {v : LV} {d : Nat} {op : Op} (hq : LU P env H ⟨some d, op, ty, pos, af, none⟩ v) (hds : Nat.blt d n.k = true) (h : LL P ops l ⟨n, (d, v) :: env, H⟩ K) : LL P ops (⟨some d, op, ty, pos, af, none⟩ :: l) ⟨n, env, H⟩ K := LL.u hq hds h
theorem gT {v : LV} {d j dj : Nat} {op : Op} {b : Bool} (hd : (ops[j]?).bind (·.dst) = some dj) (hb : get env dj = .raw (.bool b)) (hq : b = true → LU P env H ⟨some d, op, ty, pos, af, some (j, true)⟩ v) (hds : Nat.blt d n.k = true) (h : LL P ops l ⟨n, (d, .when b v) :: env, H⟩ K) : LL P ops (⟨some d, op, ty, pos, af, some (j, true)⟩ :: l) ⟨n, env, H⟩ K := LL.gT hd hb hq hds h
theorem gF {v : LV} {d j dj : Nat} {op : Op} {b : Bool} (hd : (ops[j]?).bind (·.dst) = some dj) (hb : get env dj = .raw (.bool b)) (hq : b = false → LU P env H ⟨some d, op, ty, pos, af, some (j, false)⟩ v) (hds : Nat.blt d n.k = true) (h : LL P ops l ⟨n, (d, .when (!b) v) :: env, H⟩ K) : LL P ops (⟨some d, op, ty, pos, af, some (j, false)⟩ :: l) ⟨n, env, H⟩ K := LL.gF hd hb hq hds h
theorem lq_skip {o : Oper} {j d : Nat} {want b : Bool} (hg : o.guard = some (j, want)) (hd : (ops[j]?).bind (·.dst) = some d) (hb : get env d = .raw (.bool b)) (hne : b ≠ want) : LQ P ops env H o (.raw undef) := fun w0 ph a w hi hl N Q k => by
  have hr := hl d (List.mem_append_right _ (by simp [hg, hd]))
  rw [hb] at hr
  have hy := yields' (ops := ops) (ph := ph) (env := env) hd hr.rawE
  rw [if_neg (by simp [Region.wanted, hg, hy, hne])]
  exact k ph undef w (PH.le.refl _) hi (.raw _)
theorem lq_skipU {o : Oper} {j d : Nat} {want : Bool} (hg : o.guard = some (j, want)) (hd : (ops[j]?).bind (·.dst) = some d) (hb : get env d = .raw undef) : LQ P ops env H o (.raw undef) := fun w0 ph a w hi hl N Q k => by
  have hr := hl d (List.mem_append_right _ (by simp [hg, hd]))
  rw [hb] at hr
  have hy := yielded_undef (ops := ops) hd hr.rawE
  rw [if_neg (by simp [Region.wanted, hg, hy])]
  exact k ph undef w (PH.le.refl _) hi (.raw _)
theorem lq_do {o : Oper} {v : LV} {j d : Nat} {want : Bool} (hg : o.guard = some (j, want)) (hd : (ops[j]?).bind (·.dst) = some d) (hb : get env d = .raw (.bool want)) (h : LU P env H o v) : LQ P ops env H o v := fun w0 ph a w hi hl N Q k => by
  have hr := hl d (List.mem_append_right _ (by simp [hg, hd]))
  rw [hb] at hr
  have hy := yields' (ops := ops) (ph := ph) (env := env) hd hr.rawE
  rw [if_pos (by simp [Region.wanted, hg, hy])]
  exact h w0 ph a w hi (looks_eval hl) N Q k
theorem doT {v : LV} {d j dj : Nat} {op : Op} (hd : (ops[j]?).bind (·.dst) = some dj) (hb : get env dj = .raw (.bool true)) (hq : LU P env H ⟨some d, op, ty, pos, af, some (j, true)⟩ v) (hds : Nat.blt d n.k = true) (h : LL P ops l ⟨n, (d, v) :: env, H⟩ K) : LL P ops (⟨some d, op, ty, pos, af, some (j, true)⟩ :: l) ⟨n, env, H⟩ K := LL.q (lq_do rfl hd hb hq) rfl hds h
theorem doF {v : LV} {d j dj : Nat} {op : Op} (hd : (ops[j]?).bind (·.dst) = some dj) (hb : get env dj = .raw (.bool false)) (hq : LU P env H ⟨some d, op, ty, pos, af, some (j, false)⟩ v) (hds : Nat.blt d n.k = true) (h : LL P ops l ⟨n, (d, v) :: env, H⟩ K) : LL P ops (⟨some d, op, ty, pos, af, some (j, false)⟩ :: l) ⟨n, env, H⟩ K := LL.q (lq_do rfl hd hb hq) rfl hds h
theorem skipT {d j dj : Nat} {op : Op} (hd : (ops[j]?).bind (·.dst) = some dj) (hb : get env dj = .raw (.bool false)) (hds : Nat.blt d n.k = true) (h : LL P ops l ⟨n, (d, .raw undef) :: env, H⟩ K) : LL P ops (⟨some d, op, ty, pos, af, some (j, true)⟩ :: l) ⟨n, env, H⟩ K := LL.q (lq_skip rfl hd hb (by simp)) rfl hds h
theorem skipU {d j dj : Nat} {op : Op} {want : Bool} (hd : (ops[j]?).bind (·.dst) = some dj) (hb : get env dj = .raw undef) (hds : Nat.blt d n.k = true) (h : LL P ops l ⟨n, (d, .raw undef) :: env, H⟩ K) : LL P ops (⟨some d, op, ty, pos, af, some (j, want)⟩ :: l) ⟨n, env, H⟩ K := LL.q (lq_skipU rfl hd hb) rfl hds h
theorem act {op : Op} {d : Option Nat} (h : LO P ⟨d, op, ty, pos, af, none⟩ ⟨n, env, H⟩ (fun s => LL P ops l s K)) : LL P ops (⟨d, op, ty, pos, af, none⟩ :: l) ⟨n, env, H⟩ K := LL.act h
/-- A guarded operation that acts, its guard told. -/
theorem actG {op : Op} {d : Option Nat} {j dj : Nat} {want : Bool} (hd : (ops[j]?).bind (·.dst) = some dj) (hb : get env dj = .raw (.bool want)) (h : LO P ⟨d, op, ty, pos, af, some (j, want)⟩ ⟨n, env, H⟩ (fun s => LL P ops l s K)) : LL P ops (⟨d, op, ty, pos, af, some (j, want)⟩ :: l) ⟨n, env, H⟩ K := fun w0 ph a w r Q k =>
  olist_step fun N hN => by
    have hy := yields r.tmps hd hb
    rw [if_pos (by simp [Region.wanted, hy])]
    exact h w0 ph a w r N Q fun ph' st' a' w' hle r' q => hN _ _ (q w0 ph' a' w' r' Q fun ph2 st2 a2 w2 hle2 r2 q2 => k ph2 st2 a2 w2 (hle.trans hle2) r2 q2)
/-- A guarded operation that acts, the ways parted. -/
theorem part {o : Oper} {j : Nat} {want : Bool} (hg : o.guard = some (j, want)) {d : Nat} (hd : (ops[j]?).bind (·.dst) = some d) {b : Bool} (hb : get env d = .raw (.bool b)) {dd : Nat} (hdd : o.dst = some dd) (hds : Nat.blt dd n.k = true)
    (ht : b = want → LO P o ⟨n, env, H⟩ (fun s => LL P ops l s K)) (hf : b = (!want) → LL P ops l ⟨n, (dd, .any) :: env, H⟩ K) : LL P ops (o :: l) ⟨n, env, H⟩ K := LL.opG hg hd hb hdd hds ht hf
theorem weak {t : Nat} {v : LV} (hs : Is (get env t) v) (h : LL P ops l ⟨n, (t, v) :: env, H⟩ K) : LL P ops l ⟨n, env, H⟩ K := LL.weak hs h
theorem ghost {H' : List Atom} (hs : HSub H H') (h : LL P ops l ⟨n, env, H'⟩ K) : LL P ops l ⟨n, env, H⟩ K := LL.ghost hs h
theorem wghost {c : Code} {Q : Exit → LS → Prop} {H' : List Atom} (hs : HSub H H') (h : LW P c ⟨n, env, H'⟩ Q) : LW P c ⟨n, env, H⟩ Q := LW.ghost hs h
theorem wweak {c : Code} {Q : Exit → LS → Prop} {t : Nat} {v : LV} (hs : Is (get env t) v) (h : LW P c ⟨n, (t, v) :: env, H⟩ Q) : LW P c ⟨n, env, H⟩ Q := LW.weakS hs h
theorem box {x : Operand} {t : TypeId} {d : Tmp} {v : LV} {xs : List LV} (hd : Nat.blt d n.k = true) (hx : Is (ev env x) v) (hc : Cells v xs) (h : ∀ b, K ⟨n, (d, .raw (.pointer (some ⟨b, 0, none⟩))) :: env, .cells b t xs :: H⟩) : LO P ⟨some d, .box t x, ty, pos, af, g⟩ ⟨n, env, H⟩ K := LO.box hd hx hc h
theorem alloc {t : TypeId} {d : Tmp} {z : Value} {xs : List LV} (hd : Nat.blt d n.k = true) (hz : ∀ w, (zeroValue t).run P w = .ok z w) (hc : Cells (.raw z) xs) (h : ∀ b, K ⟨n, (d, .raw (.pointer (some ⟨b, 0, none⟩))) :: env, .cells b t xs :: H⟩) : LO P ⟨some d, .alloc t, ty, pos, af, g⟩ ⟨n, env, H⟩ K := LO.alloc hd hz hc h
theorem store {x y : Operand} {t t' : TypeId} {size : Nat} {xs ys : List LV} {b off : Nat} {v : LV} (k : Nat) (hk : H[k]? = some (.cells b t' xs)) (hs : ∀ w, (sizeOf t).run P w = .ok size w) (hx : Is (ev env x) (.raw (.pointer (some ⟨b, off, none⟩)))) (hy : Is (ev env y) v) (hc : Cells v ys) (hys : ys.length = size) (hlen : off + size ≤ xs.length)
    (h : K ⟨n, env, .cells b t' (putAt xs off ys) :: H.eraseIdx k⟩) : LO P ⟨none, .store t x y, ty, pos, af, g⟩ ⟨n, env, H⟩ K := LO.store k hk hs hx hy hc hys hlen h
theorem append {s x : Operand} {t tx e : TypeId} {z : Value} {size by_ : Nat} {es ys : List (List LV)} {y : LV} {d : Tmp} {b o c : Nat} (k : Nat) (hk : H[k]? = some (.tail b o c)) (hd : Nat.blt d n.k = true) (ht : P.underlying t = some (.slice e)) (hel : El P e z size by_) (hs : Is (ev env s) (.sl size es (.tok b o c))) (hx : Is (ev env x) y) (hy : SrcL P tx size y ys) (hb : (es.length + ys.length) * by_ ≤ 140737488355328) (hb0 : es.length + ys.length ≤ 9223372036854775807)
    (h : ∀ b' o' c', K ⟨n, (d, .sl size (es ++ ys) (.tok b' o' c')) :: env, .tail b' o' c' :: H.eraseIdx k⟩) :
    LO P ⟨some d, .call { callee := .builtin .append, args := #[s, x], argTypes := #[t, tx] }, ty, pos, af, g⟩ ⟨n, env, H⟩ K := LO.append k hk hd ht hel hs hx hy hb hb0 h
/-- append(s, x..) where s has no room; the new room is ours. -/
theorem appendF {s x : Operand} {t tx e : TypeId} {z : Value} {size by_ : Nat} {es ys : List (List LV)} {y : LV} {d : Tmp} (hd : Nat.blt d n.k = true) (ht : P.underlying t = some (.slice e)) (hel : El P e z size by_) (hs : Is (ev env s) (.sl size es .full)) (hx : Is (ev env x) y) (hy : SrcL P tx size y ys) (hb : (es.length + ys.length) * by_ ≤ 140737488355328) (hb0 : es.length + ys.length ≤ 9223372036854775807)
    (h : ∀ b' o' c', K ⟨n, (d, .sl size (es ++ ys) (.tok b' o' c')) :: env, .tail b' o' c' :: H⟩) :
    LO P ⟨some d, .call { callee := .builtin .append, args := #[s, x], argTypes := #[t, tx] }, ty, pos, af, g⟩ ⟨n, env, H⟩ K := fun w0 ph a w r N Q k =>
  LO.append (st := ⟨n, env, .tail 0 0 0 :: H⟩) 0 rfl hd ht hel (hs.trans (Is.full_tok 0 0)) hx hy hb hb0 h w0 ph a w ⟨(HSub.tail0 0 0 0 (Nat.le_refl _) H).app r.inv, r.defers, r.size, r.tmps⟩ N Q k
theorem make {x y : Operand} {t e : TypeId} {z : Value} {by_ : Nat} {l c : Nat} {d : Tmp} {k1 k2 : IntKind} (hd : Nat.blt d n.k = true) (ht : P.underlying t = some (.slice e)) (hel : El P e z 1 by_) (hz : z.cells = #[z]) (hz1 : z.oneCell' = true) (hx : Is (ev env x) (.raw (.int k1 l))) (hy : Is (ev env y) (.raw (.int k2 c))) (hlc : l ≤ c) (hb : by_ * c ≤ 281474976710656) (hc : c ≤ 281474976710656)
    (h : ∀ b, K ⟨n, (d, .raw (.slice (some ⟨b, 0, none⟩) l c)) :: env, .cells b e (List.replicate c (.raw z)) :: H⟩) : LO P ⟨some d, .makeSlice t x y, ty, pos, af, g⟩ ⟨n, env, H⟩ K := LO.make hd ht hel hz hz1 hx hy hlc hb hc h
theorem call {f : FuncId} {fn : Func} {as0 : Array Operand} {ts : Array TypeId} {vs : List LV} {Hc R : List Atom} {post : LV → List Atom → Prop} {d : Tmp} (hc : LCalls P f vs Hc post) (hf : P.funcs[f]? = some fn) (hname : (fn.name == "runtime.NumGoroutine") = false) (hb : fn.body.isSome = true) (hd : Nat.blt d n.k = true) (hsub : HSub H (Hc ++ R)) (ha : Opds env as0.toList vs)
    (h : ∀ r H', post r H' → K ⟨n, (d, r) :: env, H' ++ R⟩) : LO P ⟨some d, .call { callee := .value (.func f), args := as0, argTypes := ts }, ty, pos, af, g⟩ ⟨n, env, H⟩ K := LO.call hc hf hname hb hd hsub ha h
theorem call1 {f : FuncId} {fn : Func} {as0 : Array Operand} {ts : Array TypeId} {vs : List LV} {post : LV → List Atom → Prop} {d : Tmp} {a : Atom} (k : Nat) (hk : H[k]? = some a) (hc : LCalls P f vs [a] post) (hf : P.funcs[f]? = some fn) (hname : (fn.name == "runtime.NumGoroutine") = false) (hb : fn.body.isSome = true) (hd : Nat.blt d n.k = true) (ha : Opds env as0.toList vs)
    (h : ∀ r H', post r H' → K ⟨n, (d, r) :: env, H' ++ H.eraseIdx k⟩) : LO P ⟨some d, .call { callee := .value (.func f), args := as0, argTypes := ts }, ty, pos, af, g⟩ ⟨n, env, H⟩ K := LO.call1 k hk hc hf hname hb hd ha h
section
variable {Q : Exit → LS → Prop} {t : List It} {x y c : Code}
theorem cond {o : Operand} {b : Bool} (hc : ev env o = .raw (.bool b)) (ht : b = true → LW P x ⟨n, env, H⟩ Q) (hf : b = false → LW P y ⟨n, env, H⟩ Q) : LW P (.cond o x y) ⟨n, env, H⟩ Q := LW.cond hc ht hf
theorem condT {o : Operand} {b : Bool} (hc : ev env o = .raw (.bool b)) (hb : b = true) (h : LW P x ⟨n, env, H⟩ Q) : LW P (.cond o x y) ⟨n, env, H⟩ Q := LW.cond hc (fun _ => h) (fun h' => by rw [hb] at h'; cases h')
theorem condF {o : Operand} {b : Bool} (hc : ev env o = .raw (.bool b)) (hb : b = false) (h : LW P y ⟨n, env, H⟩ Q) : LW P (.cond o x y) ⟨n, env, H⟩ Q := LW.cond hc (fun h' => by rw [hb] at h'; cases h') (fun _ => h)
theorem drawM (m : Nat) {id : Nat} {l : List Oper} (hmo : P.follows .mixedOrders = true) (hok : drawOk l.toArray m = true) (hm : Nat.ble m l.length = true) (h : QD P l.toArray H n env (l.take m) fun env' => LL P l.toArray (l.drop m) ⟨n, env', H⟩ (fun s => Q .normal s)) (hnd : noDefer l = true := by kernel_rfl) : LW P (.region id l.toArray true) ⟨n, env, H⟩ Q := LW.drawM m hmo hok hm h hnd
theorem loopK {α : Type} (mod : α → List (Nat × LV)) (live : List Nat) (hp : α → List Atom) (φ : α → Prop) (μ : α → Nat) (p0 : α) (hm : EnvLe (mod p0) env) (hh : HSub H (hp p0)) (h0 : φ p0)
    (round : ∀ p, φ p → LW P c ⟨n, mod p ++ keep live env, hp p⟩ (after P (.rnd (Next n mod live env hp φ μ p) :: t) Q)) : LW P (.loop c) ⟨n, env, H⟩ (after P t Q) := LW.loopK mod live hp φ μ p0 hm hh h0 round
theorem meetK {α : Type} (mod : α → List (Nat × LV)) (live : List Nat) (hp : α → List Atom) (φ : α → Prop) (h : LW P x ⟨n, env, H⟩ (after P (.rnd (Meets n mod live env hp φ) :: t) Q)) (k : ∀ p, φ p → LW P y ⟨n, mod p ++ keep live env, hp p⟩ (after P t Q)) : LW P (.seq x y) ⟨n, env, H⟩ (after P t Q) := LW.meetK mod live hp φ h k
theorem next {α : Type} {m : NN} {e : List (Nat × LV)} {mod : α → List (Nat × LV)} {live : List Nat} {e0 : List (Nat × LV)} {hp : α → List Atom} {φ : α → Prop} {μ : α → Nat} {p : α} (q : α) (hn : n = m) (hm : EnvLe (mod q) e) (hk : Keeps live e0 e) (hh : HSub H (hp q)) (h1 : φ q) (h2 : μ q < μ p) : Next m mod live e0 hp φ μ p ⟨n, e, H⟩ := Next.mk' q hn hm hk hh h1 h2
theorem meets {α : Type} {m : NN} {e : List (Nat × LV)} {mod : α → List (Nat × LV)} {live : List Nat} {e0 : List (Nat × LV)} {hp : α → List Atom} {φ : α → Prop} (q : α) (hn : n = m) (hm : EnvLe (mod q) e) (hk : Keeps live e0 e) (hh : HSub H (hp q)) (h1 : φ q) : Meets m mod live e0 hp φ ⟨n, e, H⟩ := Meets.mk' q hn hm hk hh h1
theorem ret {rs : Array ResultVar} {R H' : List Atom} {post : LV → List Atom → Prop} {r : LV} (hr : Res P rs ⟨n, env, H⟩ r) (hh : HSub H (H' ++ R)) (hp : post r H') (hd : n.df = [] := by rfl) : Ends P rs R post .ret ⟨n, env, H⟩ := Ends.ret hr hh hp hd
theorem normal {rs : Array ResultVar} {R H' : List Atom} {post : LV → List Atom → Prop} {r : LV} (hr : Res P rs ⟨n, env, H⟩ r) (hh : HSub H (H' ++ R)) (hp : post r H') (hd : n.df = [] := by rfl) : Ends P rs R post .normal ⟨n, env, H⟩ := Ends.normal hr hh hp hd
end
end
end X
section
variable {P : Program} {ops : Array Oper} {n : NN} {env : List (Nat × LV)} {H : List Atom} {K : LS → Prop} {l : List Oper} {ty : TypeId} {pos : String} {af : Array Edge} {g : Option (Nat × Bool)} {d : Option Nat}
theorem QD.doT {L : List (Nat × LV) → Prop} {v : LV} {d j dj : Nat} {op : Op} (hd : (ops[j]?).bind (·.dst) = some dj) (hb : get env dj = .raw (.bool true)) (hq : LU P env H ⟨some d, op, ty, pos, af, some (j, true)⟩ v) (hds : Nat.blt d n.k = true) (h : QD P ops H n ((d, v) :: env) l L) : QD P ops H n env (⟨some d, op, ty, pos, af, some (j, true)⟩ :: l) L := .q (X.lq_do rfl hd hb hq) rfl hds h
theorem QD.doF {L : List (Nat × LV) → Prop} {v : LV} {d j dj : Nat} {op : Op} (hd : (ops[j]?).bind (·.dst) = some dj) (hb : get env dj = .raw (.bool false)) (hq : LU P env H ⟨some d, op, ty, pos, af, some (j, false)⟩ v) (hds : Nat.blt d n.k = true) (h : QD P ops H n ((d, v) :: env) l L) : QD P ops H n env (⟨some d, op, ty, pos, af, some (j, false)⟩ :: l) L := .q (X.lq_do rfl hd hb hq) rfl hds h
theorem QD.skipT {L : List (Nat × LV) → Prop} {d j dj : Nat} {op : Op} (hd : (ops[j]?).bind (·.dst) = some dj) (hb : get env dj = .raw (.bool false)) (hds : Nat.blt d n.k = true) (h : QD P ops H n ((d, .raw undef) :: env) l L) : QD P ops H n env (⟨some d, op, ty, pos, af, some (j, true)⟩ :: l) L := .q (X.lq_skip rfl hd hb (by simp)) rfl hds h
theorem QD.skipU {L : List (Nat × LV) → Prop} {d j dj : Nat} {op : Op} {want : Bool} (hd : (ops[j]?).bind (·.dst) = some dj) (hb : get env dj = .raw undef) (hds : Nat.blt d n.k = true) (h : QD P ops H n ((d, .raw undef) :: env) l L) : QD P ops H n env (⟨some d, op, ty, pos, af, some (j, want)⟩ :: l) L := .q (X.lq_skipU rfl hd hb) rfl hds h
theorem LU.pickT {c x y : Operand} {v : Value} (hc : Is (ev env c) (.raw (.bool true))) (hx : Is (ev env x) (.raw v)) : LU P env H ⟨d, .pick c x y, ty, pos, af, g⟩ (.raw v) := LU.pick hc (fun _ => hx) (fun h => by cases h)
theorem LU.pickF {c x y : Operand} {v : Value} (hc : Is (ev env c) (.raw (.bool false))) (hy : Is (ev env y) (.raw v)) : LU P env H ⟨d, .pick c x y, ty, pos, af, g⟩ (.raw v) := LU.pick hc (fun h => by cases h) (fun _ => hy)
theorem LU.nilEqS {x y : Operand} {t t' e : TypeId} {a : Addr} (ht : P.underlying t = some (.pointer e)) (hx : Is (ev env x) (.raw (.pointer (some a)))) (hy : Is (ev env y) (.raw (.pointer none))) : LU P env H ⟨d, .binOp .eql t x y t', ty, pos, af, g⟩ (.raw (.bool false)) := by simpa using LU.nilp (P := P) (H := H) (d := d) (ty := ty) (pos := pos) (af := af) (g := g) (t' := t') ht (.inl rfl) hx hy
end
end Go.L
namespace Go.L
open Go.RowKit
def Weighs {H : Type} (P : Program) (t : TypeId) (d : DataW H) : Prop := ∀ n ∈ d.weights P t, n ≤ reachBytes
/-- Whatever of a type is read: its cells by their content, and what is said of them. -/
def Opens (P : Program) (t : TypeId) (Q : List LV → Prop) : Prop :=
  ∀ (H : Type) (enc : TypeId × Value → H) (w : World) (base : Nat) (spare : Nat → Bool) (held : Bool) (fuel : Nat) (cs : List Value) (x : DataW H × List MemPlace),
    DataW.trod enc P w base spare held fuel t cs = some x → Weighs P t x.1 → ∃ xs, CReps (PH.all w) cs.toArray xs ∧ Q xs
def QInt (k : IntKind) (xs : List LV) : Prop := ∃ n, xs = [.raw (.int k n)] ∧ (Lit.int k n).wf = true
def QBool (xs : List LV) : Prop := ∃ b, xs = [.raw (.bool b)]
def QStr (xs : List LV) : Prop := ∃ l : List UInt8, xs = [Str l] ∧ l.length ≤ reachBytes
def QSl (size B : Nat) (Q : List LV → Prop) (xs : List LV) : Prop := ∃ es, xs = [.sl size es .unk] ∧ (∀ c ∈ es, Q c) ∧ es.length * B ≤ reachBytes
def QNil (xs : List LV) : Prop := xs = []
def QCons (n : Nat) (Q1 Q2 : List LV → Prop) (xs : List LV) : Prop := ∃ a b, xs = a ++ b ∧ a.length = n ∧ Q1 a ∧ Q2 b
section
variable {P : Program}
theorem creps_one {ph : PH} {v : Value} {x : LV} (h1 : v.oneCell' = true) (r : Rep ph v x) : CReps ph [v].toArray [x] := by
  have := one_creps h1 r
  rwa [show v.cells = [v].toArray by cases v <;> first | rfl | (simp [Value.oneCell'] at h1)] at this
theorem Opens.int {t : TypeId} {k : IntKind} (ht : P.underlying t = some (.int k)) : Opens P t (QInt k) := fun H enc w base spare held fuel cs x h hw => by
  obtain ⟨n, rfl, _, hwf⟩ := DataW.trod_int ht h
  exact ⟨_, creps_one rfl (.raw _), n, rfl, hwf⟩
theorem Opens.bool {t : TypeId} (ht : P.underlying t = some .bool) : Opens P t QBool := fun H enc w base spare held fuel cs x h hw => by
  obtain ⟨b, rfl, _⟩ := DataW.trod_bool ht h
  exact ⟨_, creps_one rfl (.raw _), b, rfl⟩
theorem Opens.string {t : TypeId} (ht : P.underlying t = some .string) : Opens P t QStr := fun H enc w base spare held fuel cs x h hw => by
  obtain ⟨s, rfl, rfl, _⟩ := DataW.trod_string ht h
  refine ⟨[Str s.data.toList], creps_one rfl ?_, s.data.toList, rfl, hw _ (by simp [DataW.weights])⟩
  have : (⟨s.data.toList.toArray⟩ : ByteArray) = s := by cases s; simp
  show Rep _ _ (.raw (.string ⟨s.data.toList.toArray⟩))
  rw [this]
  exact .raw _
theorem weightsAll_mem {H : Type} {e : TypeId} : ∀ {l : List (DataW H)} {d : DataW H}, d ∈ l → ∀ n ∈ d.weights P e, n ∈ DataW.weightsAll P e l
  | d' :: l, d, h, n, hn => by
    rw [DataW.weightsAll]
    rcases List.mem_cons.1 h with rfl | h
    · exact List.mem_append_left _ hn
    · exact List.mem_append_right _ (weightsAll_mem h n hn)
theorem weightsEach_mem {H : Type} : ∀ {ts : List TypeId} {l : List (DataW H)} {i : Nat} {t : TypeId} {d : DataW H}, ts[i]? = some t → l[i]? = some d → ∀ n ∈ d.weights P t, n ∈ DataW.weightsEach P ts l
  | t' :: ts, d' :: l, 0, t, d, h1, h2, n, hn => by
    simp at h1 h2
    subst h1
    subst h2
    rw [DataW.weightsEach]
    exact List.mem_append_left _ hn
  | t' :: ts, d' :: l, i + 1, t, d, h1, h2, n, hn => by
    rw [DataW.weightsEach]
    exact List.mem_append_right _ (weightsEach_mem (by simpa using h1) (by simpa using h2) n hn)
  | [], _, _, _, _, h1, _, _, _ => by simp at h1
  | _ :: _, [], _, _, _, _, h2, _, _ => by simp at h2
theorem Opens.slice {t e : TypeId} {size B : Nat} {Q : List LV → Prop} (ht : P.underlying t = some (.slice e)) (hc : P.cellsOf e = size) (hb : P.bytesOf e = B) (hs0 : 0 < size) (he : Opens P e Q) : Opens P t (QSl size B Q) := fun H enc w base spare held fuel cs x h hw => by
  rcases DataW.trod_slice ht h with ⟨rfl, rfl⟩ | ⟨a, len, cap, elems, rest, n, _, rfl, rfl, hba, hl, hm, hlen, hel, hsp, hns⟩
  · exact ⟨[.sl size [] .unk], creps_one rfl (((Is.nil size).trans Is.unk) _ _ (.raw _)), [], rfl, by simp, by simp⟩
  · rw [hc] at hel
    have hwe : ∀ y ∈ elems, Weighs P e y.1 := fun y hy m hm' => hw m (by
      simp only [DataW.weights, ht]
      exact List.mem_cons_of_mem _ (List.mem_append_left _ (weightsAll_mem (List.mem_map_of_mem hy) m hm')))
    have key : ∀ i, ∃ c : List Value × List LV, i < len → w.cells? base (a.add (i * size)) size = some c.1 ∧ CReps (PH.all w) c.1.toArray c.2 ∧ Q c.2 := fun i => by
      by_cases hi : i < len
      · have h1 := hel i hi
        have hie : i < elems.length := by omega
        rw [List.getElem?_eq_getElem hie, Option.bind_eq_some_iff] at h1
        obtain ⟨c, hc1, hc2⟩ := h1
        obtain ⟨xs, h2, h3⟩ := he H enc w base spare held n c _ hc2 (hwe _ (List.getElem_mem hie))
        exact ⟨(c, xs), fun _ => ⟨hc1, h2, h3⟩⟩
      · exact ⟨([], []), fun h => absurd h hi⟩
    obtain ⟨f, hf⟩ := Classical.axiomOfChoice key
    have hcl : ∀ i, i < len → (f i).1.length = size ∧ (f i).2.length = size := fun i hi => by
      obtain ⟨h1, h2, _⟩ := hf i hi
      have h3 := (World.cells?_some h1).2.1
      have h4 := h2.1.1
      simp at h4
      omega
    have hget : ∀ (i : Nat) (e : List LV), ((List.range len).map fun i => (f i).2)[i]? = some e → i < len ∧ e = (f i).2 := fun i e hi => by
      simp only [List.getElem?_map, List.getElem?_range'] at hi
      by_cases h : i < len
      · simp [h] at hi
        exact ⟨h, hi.symm⟩
      · simp [h] at hi
    have hspot : 0 < len → a.spot = none := fun h0 => by
      obtain ⟨h1, _, _⟩ := hf 0 h0
      have h3 := (World.cells?_some h1).2.2 0 hs0
      have h4 := (hcl 0 h0).1
      rw [List.getElem?_eq_getElem (by omega), Nat.zero_mul] at h3
      cases hsq : a.spot with
      | none => rfl
      | some s =>
        rw [show (a.add 0).add 0 = a from rfl] at h3
        simp [World.cell?, hsq] at h3
        split at h3 <;> cases h3
    have hdiv : ∀ i j, j < size → (i * size + j) / size = i ∧ (i * size + j) % size = j := fun i j hj => by
      rw [Nat.mul_comm]
      exact ⟨by rw [Nat.mul_add_div hs0, Nat.div_eq_of_lt hj, Nat.add_zero], by rw [Nat.mul_add_mod, Nat.mod_eq_of_lt hj]⟩
    have hcell : ∀ (i : Nat) (e : List LV) (j : Nat) (x : LV), ((List.range len).map fun i => (f i).2)[i]? = some e → e[j]? = some x → ∃ hj : j < (f i).1.length, w.cell? (a.add (i * size + j)) = some (f i).1[j] ∧ Rep (PH.all w) (f i).1[j] x ∧ ((f i).1[j]).oneCell' = true := fun i e j x hi hj => by
      obtain ⟨hlt, rfl⟩ := hget i e hi
      obtain ⟨h1, h2, _⟩ := hf i hlt
      have hjs := (List.getElem?_eq_some_iff.1 hj).1
      have h4 := hcl i hlt
      have hj1 : j < (f i).1.length := by omega
      have h3 := (World.cells?_some h1).2.2 j (by omega)
      rw [add_add _ _ _ (hspot (by omega)), List.getElem?_eq_getElem hj1] at h3
      exact ⟨hj1, h3, h2.1.2 j _ x (by simp [hj1]) hj, h2.2 j _ (by simp [hj1])⟩
    refine ⟨[.sl size ((List.range len).map fun i => (f i).2) .unk], creps_one rfl ?_, _, rfl, fun c hc' => ?_, ?_⟩
    · refine .sl size _ .unk (some a) len cap a (fun k => (f (k / size)).1.getD (k % size) undef) (fun _ => rfl) (by simp) hl (fun e he' => ?_) trivial (fun i e j x hi hj => ?_) (fun i e j x hi hj => ?_)
      · obtain ⟨i, hi⟩ := List.mem_iff_getElem?.1 he'
        obtain ⟨hlt, rfl⟩ := hget i e hi
        exact (hcl i hlt).2
      · obtain ⟨hj1, h1, h2, h3⟩ := hcell i e j x hi hj
        have hjs : j < size := by obtain ⟨hlt, _⟩ := hget i e hi; have := hcl i hlt; omega
        simp only [(hdiv i j hjs).1, (hdiv i j hjs).2]
        rw [PH.all_some]
        refine ⟨?_, ?_⟩
        · rw [h1]; simp [List.getD, hj1]
        · simpa [List.getD, hj1] using h3
      · obtain ⟨hj1, h1, h2, h3⟩ := hcell i e j x hi hj
        have hjs : j < size := by obtain ⟨hlt, _⟩ := hget i e hi; have := hcl i hlt; omega
        simp only [(hdiv i j hjs).1, (hdiv i j hjs).2]
        simpa [List.getD, hj1] using h2
    · obtain ⟨i, hi⟩ := List.mem_iff_getElem?.1 hc'
      obtain ⟨hlt, rfl⟩ := hget i c hi
      exact (hf i hlt).2.2
    · have := hw ((elems.length + rest.length) * P.bytesOf e) (by simp [DataW.weights, ht])
      rw [hb] at this
      simp only [List.length_map, List.length_range]
      exact Nat.le_trans (Nat.mul_le_mul_right _ (by omega)) this
/-- Fields, one behind the other. -/
inductive OpF (P : Program) : List Field → Nat → (List LV → Prop) → Nat → Prop where
  | nil (off : Nat) : OpF P [] off QNil off
  | cons {f : Field} {fs : List Field} {off n m : Nat} {Q1 Q2 : List LV → Prop} (ho : f.offset = off) (hn : P.cellsOf f.type = n) (h : Opens P f.type Q1) (r : OpF P fs (off + n) Q2 m) : OpF P (f :: fs) off (QCons n Q1 Q2) m
theorem OpF.open_ : ∀ {fs : List Field} {off m : Nat} {Q : List LV → Prop}, OpF P fs off Q m → ∀ (H : Type) (enc : TypeId × Value → H) (w : World) (base : Nat) (spare : Nat → Bool) (held : Bool) (n : Nat) (cs : List Value),
    (∀ (i : Nat) (f : Field), fs[i]? = some f → ∃ y, DataW.trod enc P w base spare held n f.type ((cs.drop f.offset).take (P.cellsOf f.type)) = some y ∧ Weighs P f.type y.1) → m = cs.length →
    off ≤ m ∧ ∃ xs, CReps (PH.all w) (cs.drop off).toArray xs ∧ Q xs
  | _, off, _, _, .nil _, H, enc, w, base, spare, held, n, cs, _, hm => ⟨Nat.le_refl _, [], ⟨⟨by simp [hm], fun i c x h1 h2 => by simp at h2⟩, fun i c h1 => by simp [hm] at h1⟩, rfl⟩
  | _, _, _, _, .cons (f := f) (off := off) (n := k) ho hn h r, H, enc, w, base, spare, held, n, cs, hf, hm => by
    obtain ⟨hle, xs, h1, h2⟩ := r.open_ H enc w base spare held n cs (fun i g hg => hf (i + 1) g (by simpa using hg)) hm
    obtain ⟨y, hy, hyw⟩ := hf 0 f rfl
    rw [ho, hn] at hy
    obtain ⟨ys, h3, h4⟩ := h H enc w base spare held n _ y hy hyw
    have hk : ((cs.drop off).take k).length = k := by rw [List.length_take, List.length_drop]; omega
    refine ⟨by omega, ys ++ xs, ?_, ys, xs, rfl, by have := h3.1.1; simp only [List.size_toArray, hk] at this; omega, h4, h2⟩
    have := creps_append h3 h1
    rwa [show (cs.drop off).take k ++ cs.drop (off + k) = cs.drop off by rw [← List.drop_drop, List.take_append_drop]] at this
theorem Opens.struct {t : TypeId} {fs : Array Field} {Q : List LV → Prop} {m : Nat} (ht : P.underlying t = some (.struct fs)) (hm : P.cellsOf t = m) (h : OpF P fs.toList 0 Q m) : Opens P t Q := fun H enc w base spare held fuel cs x hx hw => by
  obtain ⟨xs, n, _, rfl, hl, hxl, hi⟩ := DataW.trod_struct ht hx
  have := h.open_ H enc w base spare held n cs (fun i f hf => by
    have hfi : fs[i]? = some f := by simpa using hf
    have h1 := hi i f hfi
    have hlt : i < xs.length := by rw [hxl]; exact (Array.getElem?_eq_some_iff.1 hfi).1
    rw [List.getElem?_eq_getElem hlt] at h1
    refine ⟨_, h1, fun k hk => hw k ?_⟩
    simp only [DataW.weights, ht]
    exact weightsEach_mem (i := i) (by simp [hf]) (by simp [hlt]) k hk) (by omega)
  simpa using this.2
/-- A composite that came in. -/
theorem reps_agg {ph : PH} {cs : Array Value} {xs : List LV} (h : CReps ph cs xs) : Rep ph (.agg cs) (.agg xs) := .agg _ _ h.1.1 h.2 h.1.2
theorem reps_nil {ph : PH} : Reps ph #[] [] := ⟨rfl, by simp⟩
theorem reps_cons {ph : PH} {v : Value} {x : LV} {vs : List Value} {xs : List LV} (h : Rep ph v x) (k : Reps ph vs.toArray xs) : Reps ph (v :: vs).toArray (x :: xs) := by
  obtain ⟨k1, k2⟩ := k
  refine ⟨by simp at k1 ⊢; omega, fun i c y h1 h2 => ?_⟩
  match i with
  | 0 => simp at h1 h2; subst h1; subst h2; exact h
  | i + 1 => simp at h1 h2; exact k2 i c y (by simpa using h1) h2
/-- Elements, decoded. -/
theorem decode {α : Type} (enc : α → List LV) (φ : α → Prop) : ∀ {es : List (List LV)}, (∀ c ∈ es, ∃ a, c = enc a ∧ φ a) → ∃ as0 : List α, es = as0.map enc ∧ ∀ a ∈ as0, φ a
  | [], _ => ⟨[], rfl, by simp⟩
  | c :: es, h => by
    obtain ⟨a, rfl, ha⟩ := h c (by simp)
    obtain ⟨as0, rfl, has⟩ := decode enc φ (es := es) (fun c hc => h c (List.mem_cons_of_mem _ hc))
    exact ⟨a :: as0, rfl, fun b hb => by rcases List.mem_cons.1 hb with rfl | hb; exact ha; exact has b hb⟩
theorem wf_u8 {n : Int} (h : (Lit.int .u8 n).wf = true) : 0 ≤ n ∧ n < 256 := by
  simp [Lit.wf, IntKind.min, IntKind.max, IntKind.signed, IntKind.bits] at h
  omega
theorem decode_bytes {es : List (List LV)} (h : ∀ c ∈ es, QInt .u8 c) : ∃ l : List UInt8, es = byteEls l := by
  obtain ⟨l, h1, h2⟩ := decode (fun b : UInt8 => [.raw (.int .u8 b.toNat)]) (fun _ => True) (es := es) (fun c hc => by
    obtain ⟨n, rfl, hn⟩ := h c hc
    have := wf_u8 hn
    refine ⟨UInt8.ofNat n.toNat, ?_, trivial⟩
    have e : ((UInt8.ofNat n.toNat).toNat : Int) = n := by
      rw [UInt8.toNat_ofNat']
      omega
    rw [e])
  exact ⟨l, h1⟩
end
end Go.L
namespace Go.L
open Go.RowKit
abbrev u8 (n : Nat) : LV := .raw (.int .u8 n)
section
variable {P : Program} {env : List (Nat × LV)} {H : List Atom} {d : Option Tmp} {ty : TypeId} {pos : String} {af : Array Edge} {g : Option (Nat × Bool)}
end
theorem putAt_all {xs ys : List LV} (h : ys.length = xs.length) : putAt xs 0 ys = ys := by simp [putAt, h]
theorem X.wcells {P : Program} {n : NN} {env : List (Nat × LV)} {c : Code} {Q : Exit → LS → Prop} {b : Nat} {t : TypeId} {xs ys : List LV} {R : List Atom} (he : xs = ys) (h : LW P c ⟨n, env, .cells b t ys :: R⟩ Q) : LW P c ⟨n, env, .cells b t xs :: R⟩ Q := he ▸ h
theorem creps_is {ph : PH} {cs : Array Value} {xs ys : List LV} (hl : xs.length = ys.length) (h : ∀ (i : Nat) (x y : LV), xs[i]? = some x → ys[i]? = some y → Is x y) (c : CReps ph cs xs) : CReps ph cs ys := ⟨⟨c.1.1.trans hl, fun i v y h1 h2 => by
  have hlt : i < xs.length := hl ▸ (List.getElem?_eq_some_iff.1 h2).1
  have hx := List.getElem?_eq_getElem hlt
  exact h i _ y hx h2 ph v (c.1.2 i v _ h1 hx)⟩, c.2⟩
/-- A cell, told otherwise. -/
theorem HSub.cell {g : Nat} {t : TypeId} {xs : List LV} {H : List Atom} (i : Nat) {x y : LV} (hx : xs[i]? = some x) (h : Is x y) : HSub (.cells g t xs :: H) (.cells g t (xs.set i y) :: H) := HSub.of fun ph w F ⟨F1, F2, ⟨h1, cs, h2, h3⟩, r⟩ => ⟨F, ⟨F1, F2, ⟨h1, cs, h2, creps_is (by simp) (fun j a b ha hb => by
  rw [List.getElem?_set] at hb
  split at hb
  · rename_i hij
    subst hij
    split at hb
    · rw [hx] at ha
      cases ha
      cases hb
      exact h
    · cases hb
  · rw [ha] at hb
    cases hb
    exact Is.rfl') h3⟩, r⟩, fun _ _ h => h⟩
end Go.L
namespace Go.L
open Go.RowKit
section
variable {P : Program} {st : LS} {K : LS → Prop} {ty : TypeId} {pos : String} {af : Array Edge} {g : Option (Nat × Bool)} {d : Nat}
theorem LO.litO {t e : TypeId} {n size : Nat} {ps : Array (Nat × Operand)} {qs : List (Nat × List LV)} {z : Value} {ys : List LV} (hd : Nat.blt d st.n.k = true) (ht : P.underlying t = some (.slice e)) (hs : ∀ w, (sizeOf e).run P w = .ok size w) (hz : ∀ w, (zeroValue e).run P w = .ok z w) (hz1 : ∀ (i : Nat) (c : Value), z.cells[i]? = some c → c.oneCell' = true) (hzs : z.cells.size = size) (hs0 : 0 < size) (hn : n * size ≤ 16777216)
    (hp : Parts st.env ps.toList qs) (hl' : laid (fun i => some (i * size, size)) ((List.replicate n (raws z.cells.toList)).flatten) qs = some ys)
    (h : ∀ b, K ⟨st.n, (d, .raw (.slice (some ⟨b, 0, none⟩) n n)) :: st.env, .cells b e ys :: st.heap⟩) : LO P ⟨some d, .buildSlice t n ps, ty, pos, af, g⟩ st K := .of_run hd fun w0 ph a w r => by
  obtain ⟨cs', hrun, hc, hsz⟩ := lit_run (d := some d) (ty := ty) (pos := pos) (af := af) (g := g) ht hs hz hz1 hzs hs0 hn hp hl' (fun x _ => r.tmps.eval x) w
  exact ⟨_, _, _, ph, _, hrun, PH.le.refl _, r.inv.block e hc, .raw _, h _⟩
theorem shape_row {w : World} {b : Nat} {cs : Array Value} {te : TypeId} (h : w.heap[b]? = some (.cells cs te (0, 0))) : w.shape? b = some (te, cs.size) := by
  unfold World.shape?
  rw [h]
theorem run_mark {w : World} {t e te : TypeId} {b n c : Nat} {cs : Array Value} (ht : P.underlying t = some (.slice e)) (he : P.underlying e = some (.int .u8)) (h : w.heap[b]? = some (.cells cs te (0, 0))) :
    (convert t t (.slice (some ⟨b, 0, none⟩) n c)).run P w = .ok (.slice (some ⟨b, 0, none⟩) n c) (w.freeze ⟨b, cs.size, none⟩ 1) := by
  simp [convert, run_underlying ht, run_underlying he, markStringish, shape_row h]
theorem freeze_at {w : World} {b k : Nat} {cs : Array Value} {te : TypeId} (h : w.heap[b]? = some (.cells cs te (0, 0))) : (w.freeze ⟨b, k, none⟩ 1).heap[b]? = some (.cells cs te (k, k + 1)) := by
  unfold World.freeze
  rw [if_neg (by decide)]
  simp [Array.getElem?_modify, h]
theorem freeze_other {w : World} {b k j : Nat} (h : j ≠ b) : (w.freeze ⟨b, k, none⟩ 1).heap[j]? = w.heap[j]? := by
  unfold World.freeze
  rw [if_neg (by decide)]
  simp [Array.getElem?_modify, Ne.symm h]
theorem freeze_size {w : World} {b k : Nat} : (w.freeze ⟨b, k, none⟩ 1).heap.size = w.heap.size := by
  unfold World.freeze
  rw [if_neg (by decide)]
  simp
theorem Inv.mark {H : List Atom} {w0 : Base} {ph : PH} {w : World} {b : Nat} {t : TypeId} {xs : List LV} (h : Inv w0 ph w (.cells b t xs :: H)) : ∃ cs ph', w.heap[b]? = some (.cells cs t (0, 0)) ∧ PH.le ph ph' ∧ Inv w0 ph' (w.freeze ⟨b, cs.size, none⟩ 1) H ∧ CReps ph' cs xs ∧ cs.size = xs.length ∧ ∀ i, i < cs.size → ph' ⟨b, i, none⟩ = cs[i]? := by
  obtain ⟨F, hF, cs, hh, hc⟩ := h.atom
  have hle : PH.le ph (PH.ext ph b 0 cs.size cs) := PH.le_ext fun i _ hi => by
    obtain ⟨_, _, _, F', ⟨F1, F2, h1, h2, h3, h4⟩, hF'⟩ := h
    exact (hF' b i ((h3 b i).2 (.inl ((h1.1 b i).2 rfl)))).2 ⟨b, i, none⟩ rfl rfl
  refine ⟨cs, PH.ext ph b 0 cs.size cs, hh, hle, ?_, hc.mono hle, hc.1.1, fun i hi => PH.ext_in ⟨Nat.zero_le _, hi⟩⟩
  have := Inv.upd (H1 := [.cells b t xs]) (H2 := []) (R := H) (w' := w.freeze ⟨b, cs.size, none⟩ 1) h hle (fun G ⟨F1, F2, h1, h2, h3, h4⟩ hn => ⟨Chg.blocks rfl rfl rfl (by rw [freeze_size]; exact Nat.le_refl _) (fun b' => b' = b) (fun b' hb o => (h3 b' o).2 (.inl ((h1.1 b' o).2 hb))) (fun b' _ hb => freeze_other hb), fun _ _ => False, fun _ _ h => h, fun _ _ h => h.elim, fun a u ha => by
    rcases PH.ext_cases ha with ⟨e, h5, h6, h7⟩ | h5
    · refine .inr ⟨⟨?_, hc.2 _ _ h7⟩, fun h => h, .inl ((h3 _ _).2 (.inl ((h1.1 _ _).2 (by rw [e]))))⟩
      rw [e, cell_of_row _ b a.off cs t _ (freeze_at hh)]
      exact h7
    · exact .inl h5⟩)
  exact this
/-- []byte of a constant: the literal's row, from now on by its content. -/
theorem LO.mark {x : Operand} {t e te : TypeId} {b n c size : Nat} {xs : List LV} {es : List (List LV)} (k : Nat) (hk : st.heap[k]? = some (.cells b te xs)) (hd : Nat.blt d st.n.k = true) (ht : P.underlying t = some (.slice e)) (he : P.underlying e = some (.int .u8)) (hx : Is (ev st.env x) (.raw (.slice (some ⟨b, 0, none⟩) n c))) (hs : ∀ e ∈ es, e.length = size) (hn : es.length = n) (hfit : n * size ≤ xs.length) (hes : es.flatten = xs.take (n * size)) (hnc : n ≤ c)
    (h : K ⟨st.n, (d, .sl size es .unk) :: st.env, st.heap.eraseIdx k⟩) : LO P ⟨some d, .convert t t x, ty, pos, af, g⟩ st K := .of_run hd fun w0 ph a w r => by
  have hinv := r.inv.front k
  unfold L.front at hinv
  rw [hk] at hinv
  obtain ⟨cs, ph', hh, hle, hi, hc, hsz, hp⟩ := hinv.mark
  have h1 := (hx _ _ (r.tmps.eval x)).rawE
  exact ⟨_, .slice (some ⟨b, 0, none⟩) n c, _, ph', _, by simp [execOp, h1, run_mark ht he hh], hle, hi, freeze_rep (off := 0) hc hp hs hn (by omega) (by simpa using hes) hnc, h⟩
theorem X.litO {t e : TypeId} {m size : Nat} {nn : NN} {env : List (Nat × LV)} {H : List Atom} {ps : Array (Nat × Operand)} {es : List (List LV)} {z : Value} (hd : Nat.blt d nn.k = true) (ht : P.underlying t = some (.slice e)) (hs : ∀ w, (sizeOf e).run P w = .ok size w) (hz : ∀ w, (zeroValue e).run P w = .ok z w) (hz1 : ∀ (i : Nat) (c : Value), z.cells[i]? = some c → c.oneCell' = true) (hzs : z.cells.size = size) (hs0 : 0 < size) (hn : m * size ≤ 16777216)
    (hp : Elems env 0 ps.toList es) (hes : ∀ e ∈ es, e.length = size) (hen : es.length = m)
    (h : ∀ b, K ⟨nn, (d, .raw (.slice (some ⟨b, 0, none⟩) m m)) :: env, .cells b e es.flatten :: H⟩) : LO P ⟨some d, .buildSlice t m ps, ty, pos, af, g⟩ ⟨nn, env, H⟩ K := by
  have hzl : ((List.replicate m (raws z.cells.toList)).flatten).length = m * size := by simp [raws, hzs]
  obtain ⟨qs, h1, h2⟩ := Elems.laid (pre := []) (rest := (List.replicate m (raws z.cells.toList)).flatten) hp hes (by simp) (by rw [hzl, hen])
  refine LO.litO (st := ⟨nn, env, H⟩) hd ht hs hz hz1 hzs hs0 hn h1 h2 fun b => ?_
  exact h b
theorem X.mark {x : Operand} {t e te : TypeId} {b n c size : Nat} {nn : NN} {env : List (Nat × LV)} {H : List Atom} {es : List (List LV)} (k : Nat) (hk : H[k]? = some (.cells b te es.flatten)) (hd : Nat.blt d nn.k = true) (ht : P.underlying t = some (.slice e)) (he : P.underlying e = some (.int .u8)) (hx : Is (ev env x) (.raw (.slice (some ⟨b, 0, none⟩) n c))) (hs : ∀ e ∈ es, e.length = size) (hn : es.length = n) (hnc : n ≤ c)
    (h : K ⟨nn, (d, .sl size es .unk) :: env, H.eraseIdx k⟩) : LO P ⟨some d, .convert t t x, ty, pos, af, g⟩ ⟨nn, env, H⟩ K := by
  have hl := flatten_len hs
  exact LO.mark (st := ⟨nn, env, H⟩) k hk hd ht he hx hs hn (by rw [hl, hn]; exact Nat.le_refl _) (by rw [List.take_of_length_le (by rw [hl, hn]; exact Nat.le_refl _)]) hnc h
end
end Go.L
namespace Go.L
open Go.RowKit
theorem Inv.startK {w : World} {g : Nat} {xs : List LV} (h : Rep (PH.all w) (.pointer (some ⟨g, 0, none⟩)) (.pin xs)) : Inv ⟨w, none⟩ (PH.all w) w [.known g xs] :=
  ⟨(Inv.start w).below, (Inv.start w).cell, (Inv.start w).one, fun _ _ => False, ⟨fun _ _ => False, fun _ _ => False, ⟨fun _ _ h => h, h⟩, fun _ _ h => h, fun b o => by simp, fun _ _ h => h.elim⟩, fun _ _ h => h.elim⟩
theorem LCalls.runK {P : Program} {f : FuncId} {args : List LV} {b : Value} {g : Nat} {xs : List LV} {post : LV → List Atom → Prop} (h : LCalls P f args [.known g xs] post) (hq : ∀ r H', post r H' → r = .raw b) {w : World} {vs : Array Value} (hr : Reps (PH.all w) vs args) (hk : Rep (PH.all w) (.pointer (some ⟨g, 0, none⟩)) (.pin xs)) : Calls P f vs w fun e w' => e = .returned b ∧ Below w.heap.size w w' :=
  (h [] ⟨w, none⟩ (PH.all w) w vs (Inv.startK hk) hr).mono fun e w' ⟨v, ph', r, H', he, hle, hi, hv, hp⟩ => by
    have := hq _ _ hp
    subst this
    exact ⟨by rw [he, hv.rawE], hi.below⟩
theorem known_of {w : World} {g : Nat} {xs : List LV} (h : ∀ j x, xs[j]? = some x → ∃ u, w.cell? ⟨g, j, none⟩ = some u ∧ u.oneCell' = true ∧ Rep (PH.all w) u x) : Rep (PH.all w) (.pointer (some ⟨g, 0, none⟩)) (.pin xs) := by
  classical
  refine .pin xs ⟨g, 0, none⟩ (fun j => if hj : ∃ x, xs[j]? = some x then (h j _ hj.choose_spec).choose else undef) (fun j x hx => ?_) (fun j x hx => ?_)
  · have hj : ∃ x, xs[j]? = some x := ⟨x, hx⟩
    simp only [dif_pos hj]
    have := (h j _ hj.choose_spec).choose_spec
    rw [add_lit, Nat.zero_add]
    exact PH.all_some.2 ⟨this.1, this.2.1⟩
  · have hj : ∃ x, xs[j]? = some x := ⟨x, hx⟩
    simp only [dif_pos hj]
    have e : hj.choose = x := Option.some.inj (hj.choose_spec.symm.trans hx)
    have := (h j _ hj.choose_spec).choose_spec
    exact e ▸ this.2.2
section
variable {P : Program}
theorem laid_ints {H : Type} {enc : TypeId × Value → H} {w : World} {base : Nat} {sp : Nat → Bool} {held : Bool} {fuel : Nat} {t e : TypeId} {n : Nat} {k : IntKind} {cs : List Value} {l : List Nat} {q : List MemPlace} (ht : P.underlying t = some (.array n e)) (he : P.underlying e = some (.int k)) (hc : P.cellsOf e = 1) (hct : P.cellsOf t = n)
    (h : DataW.trod enc P w base sp held fuel t cs = some (.agg (l.map fun (m : Nat) => .lit (.int k m)), q)) : cs = l.map fun (m : Nat) => Value.int k m := by
  obtain ⟨xs, m, _, hx, hl, hxl, hel⟩ := DataW.trod_array ht h
  simp only [Prod.mk.injEq, DataW.agg.injEq] at hx
  have hll : l.length = n := by have := congrArg List.length hx.1; simp at this; omega
  refine List.ext_getElem? fun i => ?_
  by_cases hi : i < n
  · have h1 := hel i hi
    rw [hc, Nat.mul_one] at h1
    cases hy : xs[i]? with
    | none => rw [List.getElem?_eq_none_iff] at hy; omega
    | some y =>
      rw [hy] at h1
      obtain ⟨a, e1, e2, _⟩ := DataW.trod_int he h1
      have h2 := congrArg (fun z => z[i]?) hx.1
      simp only [List.getElem?_map, hy, Option.map_some] at h2
      have h3 : cs[i]? = some (.int k a) := by
        have := congrArg (fun z => z[0]?) e1
        simpa [List.getElem?_take, List.getElem?_drop] using this
      rw [h3, List.getElem?_map]
      cases hli : l[i]? with
      | none => rw [hli] at h2; simp at h2
      | some b =>
        rw [hli] at h2
        simp only [Option.map_some, Option.some.injEq, e2, DataW.lit.injEq, Lit.int.injEq, true_and] at h2
        rw [Option.map_some, h2]
  · rw [List.getElem?_eq_none (by omega), List.getElem?_eq_none (by simp; omega)]
def QArr (n size : Nat) (Q : List LV → Prop) (xs : List LV) : Prop := ∃ es : List (List LV), xs = es.flatten ∧ es.length = n ∧ ∀ c ∈ es, c.length = size ∧ Q c
end
end Go.L
namespace Go.L
open Go.RowKit
section
variable {P : Program} {env : List (Nat × LV)} {H : List Atom} {d : Option Tmp} {ty : TypeId} {pos : String} {af : Array Edge} {g : Option (Nat × Bool)}
theorem all_range_nat : ∀ (xs ys : List Nat), xs.length = ys.length → ((List.range xs.length).all fun i => xs.getD i 0 == ys.getD i 0) = decide (xs = ys)
  | [], [], _ => by simp
  | x :: xs, y :: ys, h => by
    have ih := all_range_nat xs ys (by simpa using h)
    rw [List.length_cons, List.range_succ_eq_map, List.all_cons, List.all_map]
    simp only [List.getD_cons_zero, Function.comp_def, List.getD_cons_succ, ih]
    by_cases h1 : x = y <;> simp [h1]
  | [], _ :: _, h => by simp at h
  | _ :: _, [], h => by simp at h
theorem EqR.arr {t e : TypeId} {n : Nat} {k : IntKind} (ht : P.underlying t = some (.array n e)) (he : P.underlying e = some (.int k)) (hsz : ∀ w, (sizeOf e).run P w = .ok 1 w) (xs ys : List Nat) (hx : xs.length = n) (hy : ys.length = n) :
    EqR P 2 t (.agg (xs.map fun m => Value.int k (m : Nat)).toArray) (.agg (ys.map fun m => Value.int k (m : Nat)).toArray) (decide (xs = ys)) := fun d w => by
  rw [← all_range_nat xs ys (hx.trans hy.symm), hx, List.range_eq_range', Op.equalIn]
  simp only [Sem.run_bind, run_underlying ht, Result.andThen_ok, hsz, Std.Legacy.Range.forIn_eq_forIn_range', Std.Legacy.Range.size, Nat.sub_zero, Nat.add_sub_cancel, Nat.div_one]
  have hl : ∀ i ∈ List.range' 0 n 1, i < n := fun i hi => by simpa using (List.mem_range'_1.1 hi).2
  generalize List.range' 0 n 1 = l at hl ⊢
  induction l with
  | nil => simp
  | cons i l ih =>
    have hi : i < n := hl i (by simp)
    have px : (part e (xs.map fun m => Value.int k (m : Nat)).toArray (i * 1)).run P w = .ok (.int k (xs.getD i 0 : Nat)) w := by
      simp [part, isAgg, run_underlying he, List.getD, List.getElem?_eq_getElem (show i < xs.length by omega)]
    have py : (part e (ys.map fun m => Value.int k (m : Nat)).toArray (i * 1)).run P w = .ok (.int k (ys.getD i 0 : Nat)) w := by
      simp [part, isAgg, run_underlying he, List.getD, List.getElem?_eq_getElem (show i < ys.length by omega)]
    have pe : (Op.equalIn (d + 1) e (.int k (xs.getD i 0 : Nat)) (.int k (ys.getD i 0 : Nat))).run P w = .ok (xs.getD i 0 == ys.getD i 0) w := by
      rw [run_equalIn_int w d e k k _ _ he]
      congr 1
      rw [Bool.eq_iff_iff]
      simp
      omega
    simp only [List.forIn_cons, Sem.run_bind, px, py, pe, Result.andThen_ok, List.all_cons]
    cases hb : (xs.getD i 0 == ys.getD i 0)
    · simp
    · simp only [Bool.not_true, Bool.false_eq_true, if_false, Sem.run_pure, Result.andThen_ok, Bool.true_and]
      exact ih fun j hj => hl j (by simp [hj])
theorem RawL.map {k : IntKind} : ∀ (l : List Nat), RawL (l.map fun m => LV.raw (.int k (m : Nat))) (l.map fun m => Value.int k (m : Nat))
  | [] => .nil
  | x :: xs => .cons (RawL.map xs)
theorem LU.eqlArr {x y : Operand} {t t' e : TypeId} {n : Nat} {k : IntKind} {xs ys : List Nat} (ht : P.underlying t = some (.array n e)) (he : P.underlying e = some (.int k)) (hsz : ∀ w, (sizeOf e).run P w = .ok 1 w) (hg : P.eqGuardType P.depth t = false)
    (hx : Is (ev env x) (.agg (xs.map fun m => LV.raw (.int k (m : Nat))))) (hy : Is (ev env y) (.agg (ys.map fun m => LV.raw (.int k (m : Nat))))) (lx : xs.length = n) (ly : ys.length = n) :
    LU P env H ⟨d, .binOp .eql t x y t', ty, pos, af, g⟩ (.raw (.bool (decide (xs = ys)))) := LU.eqlA hx hy (RawL.map _) (RawL.map _) hg (by decide) (EqR.arr ht he hsz xs ys lx ly)
end
theorem Inv.addKnown {w0 : Base} {ph : PH} {w : World} {H : List Atom} {g : Nat} {xs : List LV} (h : Inv w0 ph w H) (hr : Rep ph (.pointer (some ⟨g, 0, none⟩)) (.pin xs)) : Inv w0 ph w (.known g xs :: H) := by
  obtain ⟨hb, hc, h1, F, hs, hF⟩ := h
  exact ⟨hb, hc, h1, F, ⟨fun _ _ => False, F, ⟨fun _ _ h => h, hr⟩, hs, fun b o => by simp, fun _ _ h => h.elim⟩, hF⟩
theorem Inv.know' {w0 : Base} {ph : PH} {w : World} {H : List Atom} {b : Nat} {t : TypeId} {xs : List LV} (h : Inv w0 ph w (.cells b t xs :: H)) : ∃ ph', PH.le ph ph' ∧ Inv w0 ph' w (.known b xs :: H) := by
  obtain ⟨cs, ph', hle, hi, hc, hsz, hp⟩ := h.freeze
  refine ⟨ph', hle, hi.addKnown ?_⟩
  have hlt : ∀ (j : Nat) (x : LV), xs[j]? = some x → j < cs.size := fun j x hx => by rw [hsz]; exact (List.getElem?_eq_some_iff.1 hx).1
  refine .pin xs _ (fun j => cs.getD j undef) (fun j x hx => ?_) (fun j x hx => ?_)
  · have := hlt j x hx
    rw [add_lit, Nat.zero_add, hp j this]
    simp [this]
  · have h1 := hlt j x hx
    simp only [Array.getD_eq_getD_getElem?, Array.getElem?_eq_getElem h1, Option.getD_some]
    exact hc.1.2 j _ _ (Array.getElem?_eq_getElem h1) hx
theorem Inv.knowAt {w0 : Base} {ph : PH} {w : World} {H : List Atom} {b : Nat} {t : TypeId} {xs : List LV} (k : Nat) (hk : H[k]? = some (.cells b t xs)) (h : Inv w0 ph w H) : ∃ ph', PH.le ph ph' ∧ Inv w0 ph' w (.known b xs :: H.eraseIdx k) := by
  have hinv := h.front k
  unfold L.front at hinv
  rw [hk] at hinv
  exact hinv.know'
theorem LW.know {P : Program} {n : NN} {env : List (Nat × LV)} {H : List Atom} {c : Code} {Q : Exit → LS → Prop} {b : Nat} {te : TypeId} {xs : List LV} (k : Nat) (hk : H[k]? = some (.cells b te xs)) (h : LW P c ⟨n, env, .known b xs :: H.eraseIdx k⟩ Q) : LW P c ⟨n, env, H⟩ Q := fun w0 ph a w r Q' q => by
  obtain ⟨ph', hle, hi⟩ := Inv.knowAt k hk r.inv
  exact h w0 ph' a w ⟨hi, r.defers, r.size, fun i => (r.tmps i).mono hle⟩ Q' fun e ph2 st2 a2 w2 hle2 r2 q2 => q e ph2 st2 a2 w2 (hle.trans hle2) r2 q2
theorem LL.know {P : Program} {n : NN} {env : List (Nat × LV)} {H : List Atom} {ops : Array Oper} {l : List Oper} {K : LS → Prop} {b : Nat} {te : TypeId} {xs : List LV} (k : Nat) (hk : H[k]? = some (.cells b te xs)) (h : LL P ops l ⟨n, env, .known b xs :: H.eraseIdx k⟩ K) : LL P ops l ⟨n, env, H⟩ K := fun w0 ph a w r Q q => by
  obtain ⟨ph', hle, hi⟩ := Inv.knowAt k hk r.inv
  exact h w0 ph' a w ⟨hi, r.defers, r.size, fun i => (r.tmps i).mono hle⟩ Q fun ph2 st2 a2 w2 hle2 r2 q2 => q ph2 st2 a2 w2 (hle.trans hle2) r2 q2
section
variable {P : Program} {env : List (Nat × LV)} {H : List Atom} {d : Option Tmp} {ty : TypeId} {pos : String} {af : Array Edge} {g : Option (Nat × Bool)}
abbrev singles (xs : List LV) : List (List LV) := xs.map fun x => [x]
theorem known_sl {w0 : Base} {ph : PH} {w : World} (hinv : Inv w0 ph w H) {k b off m c : Nat} {xs : List LV} {kk : Cap} (hk : H[k]? = some (.known b xs)) (hm : off + m ≤ xs.length) (hc : m ≤ c) (hcap : CapOk (some ⟨b, off, none⟩) m c 1 kk) : Rep ph (.slice (some ⟨b, off, none⟩) m c) (.sl 1 (singles ((xs.drop off).take m)) kk) := by
  obtain ⟨F, hF, hh⟩ := hinv.atom_at hk
  generalize hq : (Value.pointer (some ⟨b, 0, none⟩)) = q at hh
  cases hh with | pin _ ad uf hp hr =>
    cases hq
    have key : ∀ (i : Nat) (e : List LV) (j : Nat) (x : LV), (singles ((xs.drop off).take m))[i]? = some e → e[j]? = some x → j = 0 ∧ xs[off + i]? = some x := fun i e j x h1 h2 => by
      simp only [singles, List.getElem?_map, List.getElem?_take, List.getElem?_drop] at h1
      split at h1
      · cases hx : xs[off + i]? with
        | none => rw [hx] at h1; cases h1
        | some y =>
          rw [hx] at h1
          obtain rfl : [y] = e := by simpa using h1
          cases j with
          | zero => exact ⟨rfl, by simpa using h2⟩
          | succ j => simp at h2
      · cases h1
    refine .sl 1 _ kk _ m c ⟨b, off, none⟩ (fun j => uf (off + j)) (fun _ => rfl) (by simp; omega) hc (fun e he => ?_) hcap (fun i e j x h1 h2 => ?_) (fun i e j x h1 h2 => ?_)
    · obtain ⟨x, _, rfl⟩ := List.mem_map.1 he
      rfl
    · obtain ⟨rfl, h3⟩ := key i e j x h1 h2
      have := hp _ _ h3
      rw [add_lit] at this ⊢
      simpa using this
    · obtain ⟨rfl, h3⟩ := key i e j x h1 h2
      have := hr _ _ h3
      simpa using this
theorem LU.sliceKA {x : Operand} {t e : TypeId} {n b off : Nat} {xs : List LV} (k : Nat) (hk : H[k]? = some (.known b xs)) (ht : P.underlying t = some (.array n e)) (hs : ∀ w, (sizeOf e).run P w = .ok 1 w) (hx : Is (ev env x) (.raw (.pointer (some ⟨b, off, none⟩)))) (hm : off + n ≤ xs.length) :
    LU P env H ⟨d, .slice t x none none none, ty, pos, af, g⟩ (.sl 1 (singles ((xs.drop off).take n)) .full) := .of_run fun ph a hl w0 w hinv => by
  have h1 := (hx _ _ (hl x (by simp [Op.operands]))).rawE
  have hal : P.arrayLen t = n := by simp [Program.arrayLen, ht]
  have hel : P.elem t = e := by simp [Program.elem, ht]
  refine ⟨_, ?_, known_sl hinv hk hm (Nat.le_refl _) rfl⟩
  have := run_sliceAt_array_all (P := P) w t ⟨b, off, none⟩ (by rw [hal, hel]; exact ht)
  simp only [execOp, Option.map_none, h1, Sem.run_bind, this, hel, hs, Result.andThen_ok, hal, slicedAt, Sem.run_pure]
  have e1 : (0 : Nat) * 1 = 0 := rfl
  have e0 : (if n = 0 then (⟨b, off, none⟩ : Addr) else (⟨b, off, none⟩ : Addr).add (0 * 1)) = ⟨b, off, none⟩ := by split <;> simp [add_lit]
  rw [e0]
  simp
end
section
variable {P : Program} {env : List (Nat × LV)} {H : List Atom} {d : Option Tmp} {ty : TypeId} {pos : String} {af : Array Edge} {g : Option (Nat × Bool)}
theorem bytes_toList (l : List UInt8) : (⟨l.toArray⟩ : ByteArray).toList = l := by
  have : ∀ (a : ByteArray), a.toList = a.data.toList := fun a => ByteArray.toList_eq a
  rw [this]
theorem LU.strneN {x y : Operand} {t t' : TypeId} {a b : List UInt8} (hx : Is (ev env x) (Str a)) (hy : Is (ev env y) (Str b)) : LU P env H ⟨d, .binOp .neq t x y t', ty, pos, af, g⟩ (.raw (.bool (decide (a ≠ b)))) := by
  have := LU.strne (P := P) (H := H) (d := d) (ty := ty) (pos := pos) (af := af) (g := g) (t := t) (t' := t') hx hy
  rwa [bytes_toList, bytes_toList, show (!(a == b)) = decide (a ≠ b) from by rw [Bool.eq_iff_iff]; simp] at this
end
end Go.L
namespace Go.L
open Go.RowKit
section
variable {P : Program} {st : LS} {env : List (Nat × LV)} {H : List Atom} {K : LS → Prop} {ty : TypeId} {pos : String} {af : Array Edge} {g : Option (Nat × Bool)}
theorem append_owns {A0 : List Atom} {w0 : Base} {ph : PH} {w : World} (hA0 : ∀ a ∈ A0, a ∈ H) (hinv : Inv w0 ph w H) {t tx ty' e : TypeId} {z : Value} {size by_ : Nat} (ht : P.underlying t = some (.slice e)) (hel : El P e z size by_) (hz1 : ∀ (i : Nat) (c : Value), z.cells[i]? = some c → c.oneCell' = true) {ad : Addr} {ys : List (List LV)} {x : Value} {y : LV}
    (hs : SrcG P A0 tx size y ys) (ry : Rep ph x y) (hg : 0 < ys.length) (hb : ys.length * by_ ≤ 140737488355328) (hb0 : ys.length ≤ 9223372036854775807) :
    ∃ c' w' rest, (Builtin.append_ #[t, tx] ty' #[.slice (some ad) 0 0, x]).run P w = .ok (.slice (some ⟨w.heap.size, 0, none⟩) ys.length c') w' ∧ ys.length ≤ c' ∧ rest.length = (c' - ys.length) * size ∧ Inv w0 ph w' (.cells w.heap.size e (ys.flatten ++ raws rest) :: H) := by
  obtain ⟨⟨i, hi, hz, hsz, hby⟩, hzs, hs0⟩ := hel
  obtain ⟨news, hsrc, hnc⟩ := hs.2 w0 ph w H x hA0 hinv ry
  have hnl : news.length = ys.length * size := hsrc.newsLen
  have hold : (Builtin.firstCells i.size 0 (.slice (some ad) 0 0)).run P w.drew = .ok ([] : List Value).toArray w.drew := run_firstCells_some _ _ _ _ _ _ _ (by simp) (fun j v h => by simp at h)
  have hrun := run_append_grow_src (P := P) w t tx ty' e i z ht hi hz (some ad) 0 0 [] hold x ys.length news (hsz ▸ hsrc) (by omega) (by omega) (by rw [hby]; exact growslice_fits (by omega) (by rw [Nat.zero_add]; exact hb))
  rw [Nat.zero_add] at hrun
  have hge := grownCap_ge w ys.length 0 e
  refine ⟨_, _, (Builtin.zeroCells z.cells (grownCap w ys.length 0 e - ys.length)).toList, hrun, hge, by simp [size_zeros, hzs], ?_⟩
  have hb' : Below w.heap.size w w.drew := Below.drew (Below.refl _ _)
  have hinv2 := hinv.step hb'
  have := hinv2.block e (cs := (([] ++ news).toArray ++ Builtin.zeroCells z.cells (grownCap w ys.length 0 e - ys.length))) (xs := ys.flatten ++ raws (Builtin.zeroCells z.cells (grownCap w ys.length 0 e - ys.length)).toList) (by
    have h1 : CReps ph (Builtin.zeroCells z.cells (grownCap w ys.length 0 e - ys.length)).toList.toArray (raws (Builtin.zeroCells z.cells (grownCap w ys.length 0 e - ys.length)).toList) := by
      rw [Array.toArray_toList]
      refine raws_creps fun j c hc => ?_
      unfold Builtin.zeroCells at hc
      simp only [Array.getElem?_map, Option.map_eq_some_iff] at hc
      obtain ⟨q, _, rfl⟩ := hc
      have hlt : q % z.cells.size < z.cells.size := Nat.mod_lt _ (by omega)
      refine hz1 (q % z.cells.size) _ ?_
      rw [Array.getElem?_eq_getElem hlt, getElem!_pos z.cells _ hlt]
    have := creps_append (as0 := news) hnc h1
    rwa [show (news ++ (Builtin.zeroCells z.cells (grownCap w ys.length 0 e - ys.length)).toList).toArray = ([] ++ news).toArray ++ Builtin.zeroCells z.cells (grownCap w ys.length 0 e - ys.length) by simp] at this)
  exact this
/-- append([]T{}, x..) whose row is owned. -/
theorem LO.appendO {A0 : List Atom} (hA0 : ∀ a ∈ A0, a ∈ st.heap) {s x : Operand} {t tx e e' : TypeId} {z : Value} {size by_ : Nat} {ys : List (List LV)} {y : LV} {d : Tmp} {b0 : Nat} (k : Nat) (hk : st.heap[k]? = some (.cells b0 e [])) (hd : Nat.blt d st.n.k = true) (ht : P.underlying t = some (.slice e)) (hel : El P e z size by_) (hz1 : ∀ (i : Nat) (c : Value), z.cells[i]? = some c → c.oneCell' = true)
    (hs : Is (ev st.env s) (.raw (.slice (some ⟨b0, 0, none⟩) 0 0))) (hx : Is (ev st.env x) y) (hy : SrcG P A0 tx size y ys) (hb : ys.length * by_ ≤ 140737488355328) (hb0 : ys.length ≤ 9223372036854775807)
    (h : ∀ b c rest, ys.length ≤ c → rest.length = (c - ys.length) * size → K ⟨st.n, (d, .raw (.slice (some ⟨b, 0, none⟩) ys.length c)) :: st.env, .cells b e (ys.flatten ++ raws rest) :: st.heap.eraseIdx k⟩) :
    LO P ⟨some d, .call { callee := .builtin .append, args := #[s, x], argTypes := #[t, tx] }, ty, pos, af, g⟩ st K := .of_run hd fun w0 ph a w rl => by
  have h1 := (hs _ _ (rl.tmps.eval s)).rawE
  have ry := hx _ _ (rl.tmps.eval x)
  have hinv := rl.inv.front k
  have hrun : ∀ v w', (Builtin.append_ #[t, tx] ty #[.slice (some ⟨b0, 0, none⟩) 0 0, a.eval x]).run P w = .ok v w' → (execOp a.eval ⟨some d, .call { callee := .builtin .append, args := #[s, x], argTypes := #[t, tx] }, ty, pos, af, g⟩).run P w = .ok (.value v) w' := fun v w' h => by
    simp [execOp, resolve, invoke, builtin, h1, h]
  unfold L.front at hinv
  rw [hk] at hinv
  by_cases h0 : ys.length = 0
  · obtain rfl := List.eq_nil_of_length_eq_zero h0
    exact ⟨_, _, w, ph, _, hrun _ _ (append_nothing hA0 rl.inv ht hel (Nat.le_refl _) hy ry), PH.le.refl _, by simpa [raws] using hinv, .raw _, by simpa [raws] using h b0 0 [] (Nat.le_refl _) (by simp)⟩
  · obtain ⟨c', w', rest, h2, h3, h4, h5⟩ := append_owns (ty' := ty) (ad := ⟨b0, 0, none⟩) hA0 rl.inv ht hel hz1 hy ry (by omega) hb hb0
    refine ⟨_, _, w', ph, _, hrun _ _ h2, PH.le.refl _, ?_, .raw _, h _ _ _ h3 h4⟩
    have h6 := h5.front (k + 1)
    unfold L.front at h6
    rw [List.getElem?_cons_succ, hk] at h6
    exact (HSub.drop (HSub.refl _)).app h6
def IsL (H : List Atom) (x y : LV) : Prop := ∀ w0 ph w u, Inv w0 ph w H → Rep ph u x → Rep (PH.all w) u y
theorem le_all {w0 : Base} {ph : PH} {w : World} (h : Inv w0 ph w H) : PH.le ph (PH.all w) := fun a u hu => PH.all_some.2 ⟨h.cell a u hu, h.one a u hu⟩
theorem IsL.of {x y : LV} (h : Is x y) : IsL H x y := fun w0 ph w u hi r => (h ph u r).mono (le_all hi)
theorem IsL.rfl' {x : LV} : IsL H x x := IsL.of Is.rfl'
theorem IsL.cells {x : LV} {b off n c size : Nat} {te : TypeId} {xs : List LV} {es : List (List LV)} (k : Nat) (hk : H[k]? = some (.cells b te xs)) (hx : Is x (.raw (.slice (some ⟨b, off, none⟩) n c))) (hs : ∀ e ∈ es, e.length = size) (hn : es.length = n) (hfit : off + n * size ≤ xs.length) (he : es.flatten = (xs.drop off).take (n * size)) (hnc : n ≤ c) : IsL H x (.sl size es .unk) := fun w0 ph w u hi r => by
  rw [(hx ph u r).rawE]
  obtain ⟨F, hF, cs, hh, hc⟩ := hi.atom_at hk
  exact freeze_rep (hc.mono (le_all hi)) (fun i h => PH.all_some.2 ⟨by rw [cell_of_row w b i cs te _ hh]; simp [h], hc.2 i _ (Array.getElem?_eq_getElem h)⟩ |>.trans (by simp [h])) hs hn hfit he hnc
def OpdsL (H : List Atom) (env : List (Nat × LV)) : List Operand → List LV → Prop
  | [], [] => True
  | x :: xs, v :: vs => IsL H (ev env x) v ∧ OpdsL H env xs vs
  | _, _ => False
theorem OpdsL.nil : OpdsL H env [] [] := trivial
theorem OpdsL.cons {x : Operand} {v : LV} {xs : List Operand} {vs : List LV} (h : IsL H (ev env x) v) (k : OpdsL H env xs vs) : OpdsL H env (x :: xs) (v :: vs) := ⟨h, k⟩
theorem OpdsL.reps {w0 : Base} {ph : PH} {w : World} (hi : Inv w0 ph w H) {a : Act} : ∀ {xs : List Operand} {vs : List LV}, OpdsL H env xs vs → (∀ x ∈ xs, Rep ph (a.eval x) (ev env x)) → Reps (PH.all w) (xs.map a.eval).toArray vs
  | [], [], _, _ => ⟨rfl, by simp⟩
  | x :: xs, v :: vs, h, hr => reps_cons (h.1 _ _ _ _ hi (hr x (by simp))) (OpdsL.reps hi h.2 fun y hy => hr y (by simp [hy]))
  | [], _ :: _, h, _ => h.elim
  | _ :: _, [], h, _ => h.elim
theorem LU.lend {f : FuncId} {fn : Func} {as0 : Array Operand} {ts : Array TypeId} {vs : List LV} {v : Value} {d : Option Tmp} (hc : LCalls P f vs [] (fun r H' => r = .raw v ∧ H' = [])) (hf : P.funcs[f]? = some fn) (hname : (fn.name == "runtime.NumGoroutine") = false) (hb : fn.body.isSome = true) (ha : OpdsL H env as0.toList vs) :
    LU P env H ⟨d, .call { callee := .value (.func f), args := as0, argTypes := ts }, ty, pos, af, g⟩ (.raw v) := fun w0 ph ac w hi hl N Q kk => by
  have hargs := ha.reps hi (a := ac) (fun x hx => hl x (by simp only [Op.operands, Call.operands]; exact Array.mem_append.2 (.inr (by simpa using hx))))
  have hrun : (execOp ac.eval ⟨d, .call { callee := .value (.func f), args := as0, argTypes := ts }, ty, pos, af, g⟩).run P w = .ok (.enter f (as0.map ac.eval)) w := by
    simp [execOp, resolve, Deferred.ofValue, invoke, Act.eval, enters hf hname hb]
  unfold owp
  rw [hrun]
  refine upon_enter ?_
  refine ((hc.mono fun r H' h => h.1).run (w := w) (vs := as0.map ac.eval) (by rw [map_arr ac.eval as0]; exact hargs)).mono ?_
  rintro e w' ⟨rfl, hbel⟩
  exact kk ph _ w' (PH.le.refl _) (hi.step hbel) (.raw _)
/-- Owned cells, the source of an append. -/
theorem SrcG.cells {tx e : TypeId} {b off n c size : Nat} {te : TypeId} {xs : List LV} {ys : List (List LV)} (ht : P.underlying tx = some (.slice e)) (hs0 : 0 < size) (hys : ∀ e ∈ ys, e.length = size) (hn : ys.length = n) (hfit : off + n * size ≤ xs.length) (he : ys.flatten = (xs.drop off).take (n * size)) (hnc : n ≤ c) : SrcG P [.cells b te xs] tx size (.raw (.slice (some ⟨b, off, none⟩) n c)) ys := ⟨hys, fun w0 ph w H u hA hi r => by
  rw [r.rawE]
  obtain ⟨k, hk⟩ := List.getElem?_of_mem (hA (.cells b te xs) (by simp))
  obtain ⟨F, hF, cs, hh, hc⟩ := hi.atom_at hk
  have hsz : cs.size = xs.length := hc.1.1
  have hm : ∀ j, j < n * size → ((cs.toList.drop off).take (n * size))[j]? = cs[off + j]? := fun j hj => by
    rw [List.getElem?_take_of_lt hj, List.getElem?_drop, Array.getElem?_toList]
  have hnl : ((cs.toList.drop off).take (n * size)).length = n * size := by simp; omega
  refine ⟨(cs.toList.drop off).take (n * size), ?_, ⟨by rw [he]; simp; omega, fun j u x hu hx => ?_⟩, fun j u hu => ?_⟩
  · rw [hn]
    refine Src.ofSlice w ht ⟨b, off, none⟩ n c _ hnl (fun j u hu => ?_) (fun u hu => ?_)
    · have hj : j < n * size := by have := (List.getElem?_eq_some_iff.1 hu).1; omega
      rw [hm j hj] at hu
      rw [add_lit, cell_of_row w b (off + j) cs te _ hh]; exact hu
    · obtain ⟨j, hu⟩ := List.getElem?_of_mem hu
      have hj : j < n * size := by have := (List.getElem?_eq_some_iff.1 hu).1; omega
      rw [hm j hj] at hu
      exact hc.2 _ _ hu
  · have hj : j < n * size := by have := (Array.getElem?_eq_some_iff.1 hu).1; simp at this; omega
    rw [List.getElem?_toArray, hm j hj] at hu
    rw [he, List.getElem?_take_of_lt hj, List.getElem?_drop] at hx
    exact hc.1.2 _ _ _ hu hx
  · have hj : j < n * size := by have := (Array.getElem?_eq_some_iff.1 hu).1; simp at this; omega
    rw [List.getElem?_toArray, hm j hj] at hu
    exact hc.2 _ _ hu⟩
theorem X.appendO {A0 : List Atom} {nn : NN} {s x : Operand} {t tx e : TypeId} {z : Value} {size by_ : Nat} {ys : List (List LV)} {y : LV} {d : Tmp} {b0 : Nat} (k : Nat) (hk : H[k]? = some (.cells b0 e [])) (hd : Nat.blt d nn.k = true) (ht : P.underlying t = some (.slice e)) (hel : El P e z size by_) (hz1 : ∀ (i : Nat) (c : Value), z.cells[i]? = some c → c.oneCell' = true)
    (hs : Is (ev env s) (.raw (.slice (some ⟨b0, 0, none⟩) 0 0))) (hx : Is (ev env x) y) (hA0 : ∀ a ∈ A0, a ∈ H) (hy : SrcG P A0 tx size y ys) (hb : ys.length * by_ ≤ 140737488355328) (hb0 : ys.length ≤ 9223372036854775807)
    (h : ∀ b c rest, ys.length ≤ c → rest.length = (c - ys.length) * size → K ⟨nn, (d, .raw (.slice (some ⟨b, 0, none⟩) ys.length c)) :: env, .cells b e (ys.flatten ++ raws rest) :: H.eraseIdx k⟩) :
    LO P ⟨some d, .call { callee := .builtin .append, args := #[s, x], argTypes := #[t, tx] }, ty, pos, af, g⟩ ⟨nn, env, H⟩ K := LO.appendO (st := ⟨nn, env, H⟩) (e' := e) hA0 k hk hd ht hel hz1 hs hx hy hb hb0 h
theorem X.appendG {A0 : List Atom} {nn : NN} {s x : Operand} {t tx e : TypeId} {z : Value} {size by_ : Nat} {es ys : List (List LV)} {y : LV} {d : Tmp} {b o c : Nat} (k : Nat) (hk : H[k]? = some (.tail b o c)) (hd : Nat.blt d nn.k = true) (ht : P.underlying t = some (.slice e)) (hel : El P e z size by_) (hs : Is (ev env s) (.sl size es (.tok b o c))) (hx : Is (ev env x) y) (hA0 : ∀ a ∈ A0, a ∈ H) (hy : SrcG P A0 tx size y ys) (hb : (es.length + ys.length) * by_ ≤ 140737488355328) (hb0 : es.length + ys.length ≤ 9223372036854775807)
    (h : ∀ b' o' c', K ⟨nn, (d, .sl size (es ++ ys) (.tok b' o' c')) :: env, .tail b' o' c' :: H.eraseIdx k⟩) :
    LO P ⟨some d, .call { callee := .builtin .append, args := #[s, x], argTypes := #[t, tx] }, ty, pos, af, g⟩ ⟨nn, env, H⟩ K := LO.appendG (st := ⟨nn, env, H⟩) hA0 k hk hd ht hel hs hx hy hb hb0 h
/-- Owned bytes, as0 bytes. -/
theorem IsL.bytes {x : LV} {b c : Nat} {te : TypeId} {l : List UInt8} {rest : List LV} {n : Nat} (k : Nat) (hk : H[k]? = some (.cells b te ((l.map fun b => LV.raw (.int .u8 b.toNat)) ++ rest))) (hx : Is x (.raw (.slice (some ⟨b, 0, none⟩) n c))) (hn : l.length = n) (hnc : n ≤ c) : IsL H x (Bytes l .unk) :=
  IsL.cells k hk hx (byteEls_size l) (by simpa [byteEls] using hn) (by simp; omega) (by rw [byteEls_flat, List.drop_zero, Nat.mul_one, ← hn]; simp) hnc
end
end Go.L
namespace Go.L
open Go.RowKit
section
variable {P : Program} {st : LS} {env : List (Nat × LV)} {H : List Atom} {K : LS → Prop} {ty : TypeId} {pos : String} {af : Array Edge} {g : Option (Nat × Bool)}
end
end Go.L
namespace Go.L
open Go.RowKit
/-- One operation, guard and all. -/
def LP (P : Program) (ops : Array Oper) (o : Oper) (st : LS) (K : LS → Prop) : Prop :=
  ∀ w0 ph a w, Rels w0 ph st a w → ∀ (N : Act → World → Prop) (Q : Exit → Act → World → Prop), (∀ ph' st' a' w', PH.le ph ph' → Rels w0 ph' st' a' w' → K st' → N a' w') →
    if Region.wanted o (yielded ops a.tmps) = true then owp P o a w N Q else N (a.put o.dst undef) w
/-- What is left of a region, in whatever order. -/
def LA (P : Program) (ops : Array Oper) (fuel : Nat) (S : Array Bool) (st : LS) (K : LS → Prop) : Prop :=
  ∀ w0 ph a w, Rels w0 ph st a w → ∀ Q : Exit → Act → World → Prop, (∀ ph' st' a' w', PH.le ph ph' → Rels w0 ph' st' a' w' → K st' → Q .normal a' w') → oany P .any ops Q fuel S a w
inductive LAs (P : Program) (ops : Array Oper) (fuel : Nat) (S : Array Bool) (st : LS) (K : LS → Prop) : List Nat → Prop where
  | nil : LAs P ops fuel S st K []
  | cons {i : Nat} {o : Oper} {l : List Nat} {S' : Array Bool} (ho : ops[i]? = some o) (hS : S.setIfInBounds i true = S') (h : LP P ops o st (fun s => LA P ops fuel S' s K)) (k : LAs P ops fuel S st K l) : LAs P ops fuel S st K (i :: l)
section
variable {P : Program} {ops : Array Oper} {st : LS} {K : LS → Prop} {o : Oper} {S : Array Bool}
theorem LAs.get {fuel : Nat} : ∀ {l : List Nat}, LAs P ops fuel S st K l → ∀ i ∈ l, ∃ o, ops[i]? = some o ∧ LP P ops o st (fun s => LA P ops fuel (S.setIfInBounds i true) s K)
  | _, .nil, i, hi => by cases hi
  | _, .cons ho hS h k, i, hi => by
    rcases List.mem_cons.1 hi with rfl | hi
    · exact ⟨_, ho, by rw [hS]; exact h⟩
    · exact LAs.get k i hi
theorem LA.done {fuel : Nat} (hr : Region.ready .any ops S = []) (h : K st) : LA P ops fuel S st K := fun w0 ph a w r Q k => by
  have := k ph st a w (PH.le.refl _) r h
  cases fuel with
  | zero => exact ⟨hr, this⟩
  | succ n => exact ⟨fun _ => this, fun i hi => by rw [hr] at hi; cases hi⟩
theorem LA.step {fuel : Nat} {i : Nat} {rs : List Nat} (hr : Region.ready .any ops S = i :: rs) (h : LAs P ops fuel S st K (i :: rs)) : LA P ops (fuel + 1) S st K := fun w0 ph a w r Q k => by
  refine ⟨fun h0 => (by rw [hr] at h0; cases h0), fun j hj => ?_⟩
  rw [hr] at hj
  obtain ⟨o, ho, hp⟩ := h.get j hj
  have := hp w0 ph a w r (oany P .any ops Q fuel (S.setIfInBounds j true)) Q fun ph' st' a' w' hle r' q => q w0 ph' a' w' r' Q fun ph2 st2 a2 w2 hle2 r2 q2 => k ph2 st2 a2 w2 (hle.trans hle2) r2 q2
  unfold oop
  rw [ho]
  simp only
  split
  · rename_i hw
    rw [if_pos hw] at this
    exact this
  · rename_i hw
    rw [if_neg hw] at this
    exact this
theorem LW.all {id : Nat} {ops : Array Oper} {Q : Exit → LS → Prop} (hmo : P.follows .mixedOrders = true) (h : LA P ops ops.size (Array.replicate ops.size false) st (fun s => Q .normal s)) (hnd : noDefer ops.toList = true) : LW P (.region id ops true) st Q := fun w0 ph a w r Q' k =>
  wpIn_region_any hmo (oany_in hnd _ <| h w0 ph a { w with drawn := w.drawn + 1 } ⟨r.inv.step ⟨rfl, rfl, rfl, Nat.le_refl _, fun _ _ => rfl⟩, r.defers, r.size, r.tmps⟩ Q' fun ph' st' a' w' hle r' q => k _ ph' st' a' w' hle r' q)
theorem LP.op (hg : o.guard = none) (h : LO P o st K) : LP P ops o st K := fun w0 ph a w r N Q k => by
  rw [if_pos (by simp [Region.wanted, hg])]
  exact h w0 ph a w r N Q k
theorem LP.q {v : LV} {d : Nat} (hq : LQ P ops st.env st.heap o v) (hd : o.dst = some d) (hds : Nat.blt d st.n.k = true) (h : K ⟨st.n, (d, v) :: st.env, st.heap⟩) : LP P ops o st K := fun w0 ph a w r N Q k => by
  refine hq w0 ph a w r.inv (fun t _ => r.tmps t) N Q fun ph' u w' hle hi hr => ?_
  rw [hd]
  exact k ph' _ _ w' hle (r.put hle hi hds hr) h
end
namespace A
section
variable {P : Program} {ops : Array Oper} {n : NN} {env : List (Nat × LV)} {H : List Atom} {K : LS → Prop} {ty : TypeId} {pos : String} {af : Array Edge} {g : Option (Nat × Bool)}
theorem u {v : LV} {d : Nat} {op : Op} (hq : LU P env H ⟨some d, op, ty, pos, af, none⟩ v) (hds : Nat.blt d n.k = true) (h : K ⟨n, (d, v) :: env, H⟩) : LP P ops ⟨some d, op, ty, pos, af, none⟩ ⟨n, env, H⟩ K := LP.q (st := ⟨n, env, H⟩) (LQ.plain rfl hq) rfl hds h
theorem gT {v : LV} {d j dj : Nat} {op : Op} {b : Bool} (hd : (ops[j]?).bind (·.dst) = some dj) (hb : get env dj = .raw (.bool b)) (hq : b = true → LU P env H ⟨some d, op, ty, pos, af, some (j, true)⟩ v) (hds : Nat.blt d n.k = true) (h : K ⟨n, (d, .when b v) :: env, H⟩) : LP P ops ⟨some d, op, ty, pos, af, some (j, true)⟩ ⟨n, env, H⟩ K := LP.q (st := ⟨n, env, H⟩) (.guardT rfl hd hb hq) rfl hds h
theorem gF {v : LV} {d j dj : Nat} {op : Op} {b : Bool} (hd : (ops[j]?).bind (·.dst) = some dj) (hb : get env dj = .raw (.bool b)) (hq : b = false → LU P env H ⟨some d, op, ty, pos, af, some (j, false)⟩ v) (hds : Nat.blt d n.k = true) (h : K ⟨n, (d, .when (!b) v) :: env, H⟩) : LP P ops ⟨some d, op, ty, pos, af, some (j, false)⟩ ⟨n, env, H⟩ K := LP.q (st := ⟨n, env, H⟩) (.guardF rfl hd hb hq) rfl hds h
theorem doT {v : LV} {d j dj : Nat} {op : Op} (hd : (ops[j]?).bind (·.dst) = some dj) (hb : get env dj = .raw (.bool true)) (hq : LU P env H ⟨some d, op, ty, pos, af, some (j, true)⟩ v) (hds : Nat.blt d n.k = true) (h : K ⟨n, (d, v) :: env, H⟩) : LP P ops ⟨some d, op, ty, pos, af, some (j, true)⟩ ⟨n, env, H⟩ K := LP.q (st := ⟨n, env, H⟩) (X.lq_do rfl hd hb hq) rfl hds h
theorem doF {v : LV} {d j dj : Nat} {op : Op} (hd : (ops[j]?).bind (·.dst) = some dj) (hb : get env dj = .raw (.bool false)) (hq : LU P env H ⟨some d, op, ty, pos, af, some (j, false)⟩ v) (hds : Nat.blt d n.k = true) (h : K ⟨n, (d, v) :: env, H⟩) : LP P ops ⟨some d, op, ty, pos, af, some (j, false)⟩ ⟨n, env, H⟩ K := LP.q (st := ⟨n, env, H⟩) (X.lq_do rfl hd hb hq) rfl hds h
theorem skipT {d j dj : Nat} {op : Op} (hd : (ops[j]?).bind (·.dst) = some dj) (hb : get env dj = .raw (.bool false)) (hds : Nat.blt d n.k = true) (h : K ⟨n, (d, .raw undef) :: env, H⟩) : LP P ops ⟨some d, op, ty, pos, af, some (j, true)⟩ ⟨n, env, H⟩ K := LP.q (st := ⟨n, env, H⟩) (X.lq_skip rfl hd hb (by simp)) rfl hds h
theorem skipU {d j dj : Nat} {op : Op} {want : Bool} (hd : (ops[j]?).bind (·.dst) = some dj) (hb : get env dj = .raw undef) (hds : Nat.blt d n.k = true) (h : K ⟨n, (d, .raw undef) :: env, H⟩) : LP P ops ⟨some d, op, ty, pos, af, some (j, want)⟩ ⟨n, env, H⟩ K := LP.q (st := ⟨n, env, H⟩) (X.lq_skipU rfl hd hb) rfl hds h
theorem act {op : Op} {d : Option Nat} (h : LO P ⟨d, op, ty, pos, af, none⟩ ⟨n, env, H⟩ K) : LP P ops ⟨d, op, ty, pos, af, none⟩ ⟨n, env, H⟩ K := LP.op rfl h
theorem actG {op : Op} {d : Option Nat} {j dj : Nat} {want : Bool} (hd : (ops[j]?).bind (·.dst) = some dj) (hb : get env dj = .raw (.bool want)) (h : LO P ⟨d, op, ty, pos, af, some (j, want)⟩ ⟨n, env, H⟩ K) : LP P ops ⟨d, op, ty, pos, af, some (j, want)⟩ ⟨n, env, H⟩ K := fun w0 ph a w r N Q k => by
  have hy := yields r.tmps hd hb
  rw [if_pos (by simp [Region.wanted, hy])]
  exact h w0 ph a w r N Q k
theorem weak {fuel : Nat} {S : Array Bool} {t : Nat} {v : LV} (hs : Is (get env t) v) (h : LA P ops fuel S ⟨n, (t, v) :: env, H⟩ K) : LA P ops fuel S ⟨n, env, H⟩ K := fun w0 ph a w r Q k => h w0 ph a w ⟨r.inv, r.defers, r.size, fun i => by
  by_cases hi : t = i
  · subst hi; rw [get_same]; exact hs _ _ (r.tmps t)
  · rw [get_other hi]; exact r.tmps i⟩ Q k
theorem all {id : Nat} {Q : Exit → LS → Prop} {S : Array Bool} {m : Nat} (hmo : P.follows .mixedOrders = true) (hm : ops.size = m) (hS : Array.replicate m false = S) (h : LA P ops m S ⟨n, env, H⟩ (fun s => Q .normal s)) (hnd : noDefer ops.toList = true := by kernel_rfl) : LW P (.region id ops true) ⟨n, env, H⟩ Q := by
  subst hm
  subst hS
  exact LW.all hmo h hnd
end
end A
section
variable {P : Program} {env : List (Nat × LV)} {H : List Atom} {d : Option Tmp} {ty : TypeId} {pos : String} {af : Array Edge} {g : Option (Nat × Bool)}
end
end Go.L
namespace Go.L
open Go.RowKit
theorem Inv.putObj {w0 : Base} {ph : PH} {w : World} {H : List Atom} {g : Nat} {o : Obj} (h : Inv w0 ph w (.obj g o :: H)) (o' : Obj) : Inv w0 ph (w.putObj g o') (.obj g o' :: H) := by
  obtain ⟨F, hF, ho⟩ := h.atom
  have hlt : g < w.heap.size := lt_of_some ho
  exact h.turn (PH.le.refl _) fun G hG hn => ⟨Chg.blocks rfl rfl rfl (by simp) (fun b => b = g) (fun b hb o => (hG.1 b o).2 hb) (fun b _ hb => World.putObj_heap_other hb), G, ⟨hG.1, World.putObj_heap_same hlt⟩, fun b o hb => .inl hb, fun p u hp => .inl hp⟩
theorem Inv.newObj {w0 : Base} {ph : PH} {w : World} {H : List Atom} (h : Inv w0 ph w H) (o : Obj) : Inv w0 ph (w.alloc o) (.obj w.heap.size o :: H) :=
  h.new ((Below.refl _ _).alloc (Nat.le_refl _) _) (G := fun b _ => b = w.heap.size) ⟨fun _ _ => Iff.rfl, heap_new w o⟩ (fun b _ hb => by rw [hb]; exact Nat.le_refl _)
theorem Inv.obj_at {w0 : Base} {ph : PH} {w : World} {H : List Atom} {g : Nat} {o : Obj} (h : Inv w0 ph w (.obj g o :: H)) : w.heap[g]? = some o := by
  obtain ⟨F, hF, ho⟩ := h.atom
  exact ho
/-- A call of yield: what it gives and what is owned then. -/
def LYields (P : Program) (yv : Value) (args : List LV) (H : List Atom) (post : LV → List Atom → Prop) : Prop :=
  ∀ (R : List Atom) w0 ph w (vs : Array Value), Inv w0 ph w (H ++ R) → Reps ph vs args →
    ∃ l fn tmps assign body, yv = .func (.yield l) #[] #[] ∧ (Instr.yield l vs).run P w = .ok (.round l fn tmps assign body) w ∧
      RoundIn Fence.wide 0 P l fn tmps assign body w fun e w' => ∃ v ph' r H', e = .returned v ∧ PH.le ph ph' ∧ Inv w0 ph' w' (H' ++ R) ∧ Rep ph' v r ∧ post r H'
theorem LYields.mono {P : Program} {yv : Value} {args : List LV} {H : List Atom} {post post' : LV → List Atom → Prop} (h : LYields P yv args H post) (hp : ∀ r H', post r H' → post' r H') : LYields P yv args H post' := fun R w0 ph w vs i r => by
  obtain ⟨l, fn, tmps, as0, bd, h1, h2, h3⟩ := h R w0 ph w vs i r
  exact ⟨l, fn, tmps, as0, bd, h1, h2, h3.mono fun e w' ⟨v, ph', x, H', q1, q2, q3, q4, q5⟩ => ⟨v, ph', x, H', q1, q2, q3, q4, hp _ _ q5⟩⟩
section
variable {P : Program} {st : LS} {n : NN} {env : List (Nat × LV)} {H : List Atom} {K : LS → Prop} {ty : TypeId} {pos : String} {af : Array Edge} {g : Option (Nat × Bool)}
theorem LO.yield {t : Operand} {as0 : Array Operand} {ts : Array TypeId} {vs : List LV} {yv : Value} {Hc R : List Atom} {post : LV → List Atom → Prop} {d : Tmp} (hy : LYields P yv vs Hc post) (ht : Is (ev st.env t) (.raw yv)) (hd : Nat.blt d st.n.k = true) (hsub : HSub st.heap (Hc ++ R)) (ha : Opds st.env as0.toList vs)
    (h : ∀ r H', post r H' → K ⟨st.n, (d, r) :: st.env, H' ++ R⟩) : LO P ⟨some d, .call { callee := .value t, args := as0, argTypes := ts }, ty, pos, af, g⟩ st K := fun w0 ph a w r N Q k => by
  have hargs := ha.reps (a := a) (ph := ph) (fun x _ => r.tmps.eval x)
  have htv := (ht _ _ (r.tmps.eval t)).rawE
  obtain ⟨l, fn, tmps, asg, body, hyv, hrun0, hround⟩ := hy R w0 ph w (as0.map a.eval) (hsub.app r.inv) (by rw [map_arr a.eval as0]; exact hargs)
  have hrun : (execOp a.eval ⟨some d, .call { callee := .value t, args := as0, argTypes := ts }, ty, pos, af, g⟩).run P w = .ok (.round l fn tmps asg body) w := by
    rw [hyv] at htv
    simp [execOp, resolve, htv, Deferred.ofValue, invoke, hrun0]
  unfold owp
  rw [hrun, Oper.uponIn_round]
  refine ⟨fun h => (by cases h), hround.mono ?_⟩
  rintro e w' ⟨v, ph', x, H', rfl, hle, hi, hx, hp⟩
  exact k ph' _ _ w' hle (r.put hle hi hd hx) (h x H' hp)
theorem X.yield {t : Operand} {as0 : Array Operand} {ts : Array TypeId} {vs : List LV} {yv : Value} {Hc R : List Atom} {post : LV → List Atom → Prop} {d : Tmp} (hy : LYields P yv vs Hc post) (ht : Is (ev env t) (.raw yv)) (hd : Nat.blt d n.k = true) (hsub : HSub H (Hc ++ R)) (ha : Opds env as0.toList vs)
    (h : ∀ r H', post r H' → K ⟨n, (d, r) :: env, H' ++ R⟩) : LO P ⟨some d, .call { callee := .value t, args := as0, argTypes := ts }, ty, pos, af, g⟩ ⟨n, env, H⟩ K := LO.yield (st := ⟨n, env, H⟩) hy ht hd hsub ha h
end
/-- An iterator: whoever takes, its items come one by one, till the taker says no more; of what it owned (Hi) Hi' is left. -/
def LIter (P : Program) (gf : FuncId) (caps : Array Value) (items : List (List LV)) (Hi Hi' : List Atom) : Prop :=
  ∀ (α β : Type) (F : α → List Atom) (G : β → List Atom) (φ : Nat → α → Prop) (ψ : β → Prop) (yv : Value),
    (∀ k p x, items[k]? = some x → φ k p → LYields P yv x (F p) (fun r H' => (∃ q, r = .raw (.bool true) ∧ φ (k + 1) q ∧ H' = F q) ∨ (∃ q, r = .raw (.bool false) ∧ ψ q ∧ H' = G q))) →
    ∀ p0, φ 0 p0 → LCalls P gf (.raw yv :: raws caps.toList) (Hi ++ F p0) (fun r H' => (∃ q, φ items.length q ∧ H' = Hi' ++ F q) ∨ (∃ q, ψ q ∧ H' = Hi' ++ G q))
/-- The slots at a round's beginning. -/
def setP : List Tmp → List LV → List (Nat × LV) → List (Nat × LV)
  | t :: ts, x :: xs, env => setP ts xs ((t, x) :: env)
  | _, _, env => env
theorem env_setP {ph : PH} : ∀ (ps : List Tmp) (vs : List Value) (xs : List LV) (env : List (Nat × LV)) (a : Act), (∀ t ∈ ps, t < a.tmps.size) → vs.length = xs.length → (∀ (i : Nat) v x, vs[i]? = some v → xs[i]? = some x → Rep ph v x) → Env ph env a →
    Env ph (setP ps xs env) ⟨(ps.zip vs).foldl (fun tmps (t, v) => tmps.setIfInBounds t v) a.tmps, a.defers⟩ ∧ ((ps.zip vs).foldl (fun tmps (t, v) => tmps.setIfInBounds t v) a.tmps).size = a.tmps.size
  | [], vs, xs, env, a, _, _, _, h => by cases xs <;> exact ⟨h, rfl⟩
  | t :: ps, [], [], env, a, _, _, _, h => ⟨h, rfl⟩
  | t :: ps, v :: vs, x :: xs, env, a, hp, hl, hr, h => by
    have h1 := (h.put (d := t) (hp t (by simp)) (hr 0 v x rfl rfl))
    have := env_setP ps vs xs ((t, x) :: env) (a.put (some t) v) (fun t' ht' => by rw [put_size]; exact hp t' (by simp [ht'])) (by simpa using hl) (fun i v' x' h1 h2 => hr (i + 1) v' x' h1 h2) h1
    rw [put_size] at this
    exact this
  | t :: ps, [], x :: xs, env, a, _, hl, _, h => by simp at hl
  | t :: ps, v :: vs, [], env, a, _, hl, _, h => by simp at hl
theorem Inv.since {w0 : Base} {ph : PH} {w : World} {H : List Atom} (h : Inv w0 ph w H) : Inv w0 ph w (.since ph :: H) := by
  obtain ⟨hb, hc, h1, F, hs, hF⟩ := h
  exact ⟨hb, hc, h1, F, ⟨fun _ _ => False, F, ⟨fun _ _ h => h, PH.le.refl _⟩, hs, fun b o => by simp, fun _ _ h => h.elim⟩, hF⟩
theorem Inv.since_at {w0 : Base} {ph p : PH} {w : World} {H : List Atom} (h : Inv w0 ph w (.since p :: H)) : PH.le p ph := by
  obtain ⟨F, hF, ho⟩ := h.atom
  exact ho
theorem HSub.prefix (A B : List Atom) : HSub (A ++ B) A := HSub.of fun ph w F h => by
  obtain ⟨F1, F2, h1, h2, h3, h4⟩ := Sep.split h
  exact ⟨F1, h1, fun b o h => (h3 b o).2 (.inl h)⟩
open Classical in
theorem perm_of {H K : List Atom} (h : ∀ x, H.count x = K.count x) : H.Perm K := List.perm_iff_count.2 h
/-- The mark that a loop over a function leaves among the deferred calls. -/
def markOf (D : Nat) : Deferred := { target := .collected D, args := #[] }
/-- What a round of such a loop must do. -/
abbrev RoundOk (P : Program) (k0 : Nat) (env : List (Nat × LV)) (ps : List Tmp) (assign body : Code) (items : List (List LV)) {α β : Type} (F : α → List Atom) (G : β → List Atom) (φ : Nat → α → Prop) (L : Code → β → Prop) : Prop :=
  ∀ (k : Nat) (p : α) (x : List LV), items[k]? = some x → φ k p → ∀ R', LW P assign ⟨⟨k0, [], false⟩, setP ps x env, F p ++ R'⟩ (after P [] (fun e s => e = .normal ∧ ∃ A env', s = ⟨⟨k0, [], false⟩, env', A ++ R'⟩ ∧ ∀ R'', LW P body ⟨⟨k0, [], false⟩, env', A ++ R''⟩ (after P [] (fun e s' =>
      match e with
      | .normal => ∃ q, φ (k + 1) q ∧ HSub s'.heap (F q ++ R'')
      | .ret => ∃ q, L .ret q ∧ HSub s'.heap (G q ++ R'')
      | .exit id => ∃ q, L (.exit id) q ∧ HSub s'.heap (G q ++ R'')
      | _ => False))))
theorem range_yields {P : Program} {env : List (Nat × LV)} {ps : Array Tmp} {assign body : Code} {items : List (List LV)} {α β : Type} {F : α → List Atom} {G : β → List Atom} {φ : Nat → α → Prop} {L : Code → β → Prop} {k0 : Nat} {ph : PH} {a : Act} {rec : Loop} {l : Nat}
    (round : RoundOk P k0 env ps.toList assign body items F G φ L) (hsize : a.tmps.size = k0) (htmps : Env ph env a) (hps' : ∀ t ∈ ps.toList, t < a.tmps.size) (hit : ∀ x ∈ items, x.length = ps.size)
    (hrf : rec.assign = assign ∧ rec.body = body ∧ rec.params = ps ∧ rec.tmps = a.tmps ∧ rec.state = .ready ∧ rec.pending = none) :
    ∀ k p x, items[k]? = some x → φ k p → LYields P (.func (.yield l) #[] #[]) x (.since ph :: .obj l (.loop rec) :: F p) (fun r H' => (∃ q, r = .raw (.bool true) ∧ φ (k + 1) q ∧ H' = .since ph :: .obj l (.loop rec) :: F q) ∨ (∃ q : Code × β, r = .raw (.bool false) ∧ L q.1 q.2 ∧ H' = .since ph :: .obj l (.loop { rec with state := .done, pending := some q.1 }) :: G q.2)) := by
  intro k p x hx hp R1 w2 ph1 w3 vs hi hr
  have hle1 := hi.since_at
  obtain ⟨rfl, rfl, rfl, h4, h5, h6⟩ := hrf
  have hlen : vs.size = rec.params.size := by rw [hr.1, hit x (List.mem_of_getElem? hx)]
  have hi3 : Inv w2 ph1 w3 (.obj l (.loop rec) :: (F p ++ (.since ph :: R1))) := (HSub.perm (perm_of fun x => (by simp only [List.count_append, List.count_cons]; omega))).app hi
  have hry := run_yield (P := P) (args := vs) hi3.obj_at hlen
  refine ⟨l, _, _, _, _, rfl, hry, ?_⟩
  refine roundIn_of_wpIn trivial ?_
  have hps2 := env_setP (ph := ph1) rec.params.toList vs.toList x env a hps' (by simpa using hr.1) (fun i v y h1 h2 => hr.2 i v y (by simpa using h1) h2) (htmps.mono hle1)
  have hzip : (rec.params.zip vs).foldl (fun tmps (x : Nat × Value) => match x with | (t, a) => tmps.setIfInBounds t a) rec.tmps = (rec.params.toList.zip vs.toList).foldl (fun tmps (t, v) => tmps.setIfInBounds t v) a.tmps := by
    rw [← Array.foldl_toList, Array.toList_zip, h4]
  rw [hzip]
  obtain ⟨T, hT⟩ : ∃ T, T = (rec.params.toList.zip vs.toList).foldl (fun tmps (t, v) => tmps.setIfInBounds t v) a.tmps := ⟨_, rfl⟩
  rw [← hT] at hps2 ⊢
  have hi4 : Inv ⟨w2.w, some l⟩ ph1 w3 (F p ++ (.obj l (.loop rec) :: .since ph :: R1)) := ((HSub.perm (perm_of fun x => (by simp only [List.count_append, List.count_cons]; omega))).app hi3).ro _
  refine round k p x hx hp (.obj l (.loop rec) :: .since ph :: R1) ⟨w2.w, some l⟩ ph1 ⟨T, []⟩ w3 ⟨hi4, ⟨rfl, fun h => by cases h⟩, hps2.2.trans hsize, fun d => hps2.1 d⟩ _ fun e ph2 st2 a2 w4 hle2 r2 q2 => ?_
  obtain ⟨he, A, env', hst, hbody⟩ := q2
  subst he
  subst hst
  have hi5 : Inv ⟨w2.w, some l⟩ ph2 w4 (.obj l (.loop rec) :: (A ++ (.since ph :: R1))) := (HSub.perm (perm_of fun x => (by simp only [List.count_append, List.count_cons]; omega))).app r2.inv
  refine ⟨_, run_beginRound hi5.obj_at h5, ?_⟩
  have hi6 : Inv ⟨w2.w, some l⟩ ph2 (w4.putObj l (.loop { rec with state := .busy })) (A ++ (.obj l (.loop { rec with state := .busy }) :: .since ph :: R1)) := (HSub.perm (perm_of fun x => (by simp only [List.count_append, List.count_cons]; omega))).app (hi5.putObj _)
  refine hbody (.obj l (.loop { rec with state := .busy }) :: .since ph :: R1) ⟨w2.w, some l⟩ ph2 a2 _ ⟨hi6, r2.defers, r2.size, r2.tmps⟩ _ fun e ph3 st3 a3 w5 hle3 r3 q3 => ?_
  have fin : ∀ (H' : List Atom) (j : Option Code), HSub st3.heap (H' ++ (.obj l (.loop { rec with state := .busy }) :: .since ph :: R1)) → ∃ w6, (Instr.endRound l j).run P w5 = .ok (.bool j.isNone) w6 ∧ Inv w2 ph3 w6 ((.since ph :: .obj l (.loop { rec with state := if j.isNone then .ready else .done, pending := j }) :: H') ++ R1) := fun H' j hh => by
    have hi7 : Inv ⟨w2.w, some l⟩ ph3 w5 (.obj l (.loop { rec with state := .busy }) :: (H' ++ (.since ph :: R1))) := (HSub.perm (perm_of fun x => (by simp only [List.count_append, List.count_cons]; omega))).app (hh.app r3.inv)
    exact ⟨_, run_endRound j hi7.obj_at, ((HSub.perm (perm_of fun x => (by simp only [List.count_append, List.count_cons]; omega))).app (hi7.putObj _)).ro'⟩
  cases e with
  | normal =>
    obtain ⟨q, hq, hh⟩ := q3
    obtain ⟨w6, h1, h2⟩ := fin _ none hh
    have hrr : ({ rec with state := .ready, pending := none } : Loop) = rec := by rw [← h5, ← h6]
    simp only [Option.isNone_none, if_true, hrr] at h1 h2
    exact ⟨_, w6, h1, _, ph3, .raw (.bool true), _, rfl, (hle2.trans hle3), h2, .raw _, .inl ⟨q, rfl, hq, rfl⟩⟩
  | ret =>
    obtain ⟨q, hq, hh⟩ := q3
    obtain ⟨w6, h1, h2⟩ := fin _ (some .ret) hh
    exact ⟨_, w6, h1, _, ph3, .raw (.bool false), .since ph :: .obj l (.loop { rec with state := .done, pending := some .ret }) :: G q, rfl, (hle2.trans hle3), h2, .raw _, .inr ⟨(.ret, q), rfl, hq, rfl⟩⟩
  | exit id =>
    obtain ⟨q, hq, hh⟩ := q3
    obtain ⟨w6, h1, h2⟩ := fin _ (some (.exit id)) hh
    exact ⟨_, w6, h1, _, ph3, .raw (.bool false), .since ph :: .obj l (.loop { rec with state := .done, pending := some (.exit id) }) :: G q, rfl, (hle2.trans hle3), h2, .raw _, .inr ⟨(.exit id, q), rfl, hq, rfl⟩⟩
  | goto i => exact (show False from q3).elim
  | panic c => exact (show False from q3).elim
  | outgrown => exact (show False from q3).elim
set_option maxHeartbeats 1000000 in
/-- for .. := range g { .. } -/
theorem LW.range {P : Program} {st : LS} {Q : Exit → LS → Prop} {gop : Operand} {ps : Array Tmp} {assign body : Code} {gf : FuncId} {fn : Func} {caps : Array Value} {items : List (List LV)} {Hi Hi' R : List Atom}
    (hg : Is (ev st.env gop) (.raw (.func (.func gf) #[] caps))) (htop : st.n.top = true) (hf : P.funcs[gf]? = some fn) (hname : (fn.name == "runtime.NumGoroutine") = false) (hb : fn.body.isSome = true) (it : LIter P gf caps items Hi Hi')
    (hps : (ps.toList.all fun t => Nat.blt t st.n.k) = true) (hit : ∀ x ∈ items, x.length = ps.size)
    {α β : Type} (F : α → List Atom) (G : β → List Atom) (φ : Nat → α → Prop) (L : Code → β → Prop) (p0 : α) (h0 : φ 0 p0) (hsub : HSub st.heap (Hi ++ (F p0 ++ R)))
    (round : RoundOk P st.n.k st.env ps.toList assign body items F G φ L)
    (done : ∀ D q, φ items.length q → Q .normal ⟨⟨st.n.k, markOf D :: st.n.df, true⟩, st.env, Hi' ++ (F q ++ (.obj D (.deferred (some [])) :: R))⟩)
    (left : ∀ D c q, L c q → LW P c ⟨⟨st.n.k, markOf D :: st.n.df, true⟩, st.env, Hi' ++ (G q ++ (.obj D (.deferred (some [])) :: R))⟩ Q) : LW P (.rangeFunc gop ps assign body) st Q := fun w0 ph a w r Q' kk => by
  have hro : w0.ro = none := r.defers.2 htop
  have hgv := (hg _ _ (r.tmps.eval gop)).rawE
  have hps' : ∀ t ∈ ps.toList, t < a.tmps.size := fun t ht => by
    have := List.all_eq_true.1 hps t ht
    rw [r.size]
    exact Nat.le_of_ble_eq_true this
  rw [hro]
  refine wpIn_rangeFunc fun fid _ => ?_
  obtain ⟨rec, hrec⟩ : ∃ rec : Loop, rec = { state := .ready, pending := none, fn := fid, tmps := a.tmps, params := ps, assign, body, defers := w.heap.size } := ⟨_, rfl⟩
  obtain ⟨l, hl⟩ : ∃ l, l = w.heap.size + 1 := ⟨_, rfl⟩
  obtain ⟨D, hD⟩ : ∃ D, D = w.heap.size := ⟨_, rfl⟩
  obtain ⟨w1, hw1⟩ : ∃ w1, w1 = (w.alloc (.deferred (some []))).alloc (.loop rec) := ⟨_, rfl⟩
  have hent : (Instr.enterLoop fid a.tmps ps assign body none).run P w = .ok (l, [markOf D]) w1 := by rw [hl, hD, hw1, hrec]; exact run_enterLoop_outer _ _ _ _ _
  have hcv : a.eval (.const (.func (.yield l) #[] #[])) = .func (.yield l) #[] #[] := rfl
  have hres : (resolve a.eval (rangeCall gop l) 0).run P w1 = .ok { target := .fn (.func gf) caps, args := #[.func (.yield l) #[] #[]] } w1 := by simp [resolve, hgv, Deferred.ofValue, hcv]
  have hinv : (invoke (.fn (.func gf) caps) #[.func (.yield l) #[] #[]]).run P w1 = .ok (.enter gf (#[.func (.yield l) #[] #[]] ++ caps)) w1 := by simp [invoke, enters hf hname hb]
  refine ⟨l, [markOf D], w1, _, w1, gf, _, w1, hent, hres, fun _ _ => trivial, hinv, fun h => (by cases h), ?_⟩
  have hi1 := ((hsub.app r.inv).newObj (.deferred (some []))).newObj (.loop rec)
  rw [show (w.alloc (.deferred (some []))).heap.size = l by rw [hl]; simp, ← hD, ← hw1] at hi1
  have hi2 : Inv w0 ph w1 ((Hi ++ (.since ph :: .obj l (.loop rec) :: F p0)) ++ (.obj D (.deferred (some [])) :: R)) :=
    (HSub.perm (perm_of fun x => (by simp only [List.count_append, List.count_cons]; omega))).app hi1.since
  have hyl := range_yields (ph := ph) (l := l) (rec := rec) round r.size r.tmps hps' hit (by rw [hrec]; exact ⟨rfl, rfl, rfl, rfl, rfl, rfl⟩)
  have hdf : [markOf D] ++ a.defers = markOf D :: st.n.df := by rw [r.defers.1]; rfl
  have hcall := it α (Code × β) (fun p => .since ph :: .obj l (.loop rec) :: F p) (fun q => .since ph :: .obj l (.loop { rec with state := .done, pending := some q.1 }) :: G q.2) φ (fun q => L q.1 q.2) (.func (.yield l) #[] #[]) hyl p0 h0
  have hrp : Reps ph (#[.func (.yield l) #[] #[]] ++ caps) (.raw (.func (.yield l) #[] #[]) :: raws caps.toList) := Reps.append (reps_cons (.raw _) reps_nil) (reps_raws caps)
  refine callsIn_wide.2 ((hcall (.obj D (.deferred (some [])) :: R) w0 ph w1 _ hi2 hrp).mono ?_)
  rintro e w2 ⟨v, ph2, x, H', rfl, hle2, hi, hx, hp⟩
  rcases hp with ⟨q, hq, rfl⟩ | ⟨⟨c, q⟩, hq, rfl⟩
  · have hi3 : Inv w0 ph2 w2 (.obj l (.loop rec) :: (Hi' ++ (F q ++ (.obj D (.deferred (some [])) :: R)) ++ [.since ph])) := (HSub.perm (perm_of fun x => (by simp only [List.count_append, List.count_cons, List.count_nil]; omega))).app hi
    have hpn : rec.pending = none := by rw [hrec]
    refine ⟨rec.pending, _, run_endLoop (P := P) hi3.obj_at (by rw [hrec]; simp), ?_⟩
    have hi4 := hi3.putObj (.loop { rec with state := .exhausted })
    rw [hpn] at hi4 ⊢
    refine kk .normal ph2 ⟨⟨st.n.k, markOf D :: st.n.df, true⟩, st.env, Hi' ++ (F q ++ (.obj D (.deferred (some [])) :: R))⟩ ⟨a.tmps, [markOf D] ++ a.defers⟩ _ hle2 ⟨?_, ⟨hdf, fun _ => hro⟩, r.size, r.tmps.mono hle2⟩ (done D q hq)
    exact ((HSub.drop (HSub.refl _)).trans (HSub.prefix _ _)).app hi4
  · have hi3 : Inv w0 ph2 w2 (.obj l (.loop { rec with state := .done, pending := some c }) :: (Hi' ++ (G q ++ (.obj D (.deferred (some [])) :: R)) ++ [.since ph])) := (HSub.perm (perm_of fun x => (by simp only [List.count_append, List.count_cons, List.count_nil]; omega))).app hi
    refine ⟨some c, _, run_endLoop (P := P) hi3.obj_at (by simp), ?_⟩
    have hi4 := hi3.putObj (.loop { { rec with state := .done, pending := some c } with state := .exhausted })
    have := left D c q hq w0 ph2 { a with defers := [markOf D] ++ a.defers } _ ⟨((HSub.drop (HSub.refl _)).trans (HSub.prefix _ _)).app hi4, ⟨hdf, fun _ => hro⟩, r.size, r.tmps.mono hle2⟩ Q' (fun e ph3 st3 a3 w3 hle3 r3 q3 => kk e ph3 st3 a3 w3 (hle2.trans hle3) r3 q3)
    rw [hro] at this
    exact this
theorem X.range {P : Program} {k0 : Nat} {df : List Deferred} {env : List (Nat × LV)} {H : List Atom} {Q : Exit → LS → Prop} {t : List It} {gop : Operand} {ps : Array Tmp} {assign body : Code} {gf : FuncId} {fn : Func} {caps : Array Value} {items : List (List LV)} {Hi Hi' R : List Atom}
    (hg : Is (ev env gop) (.raw (.func (.func gf) #[] caps))) (hf : P.funcs[gf]? = some fn) (hname : (fn.name == "runtime.NumGoroutine") = false) (hb : fn.body.isSome = true) (it : LIter P gf caps items Hi Hi')
    (hps : (ps.toList.all fun t => Nat.blt t k0) = true) (hit : ∀ x ∈ items, x.length = ps.size)
    {α β : Type} (F : α → List Atom) (G : β → List Atom) (φ : Nat → α → Prop) (L : Code → β → Prop) (p0 : α) (h0 : φ 0 p0) (hsub : HSub H (Hi ++ (F p0 ++ R)))
    (round : RoundOk P k0 env ps.toList assign body items F G φ L)
    (done : ∀ D q, φ items.length q → after P t Q .normal ⟨⟨k0, markOf D :: df, true⟩, env, Hi' ++ (F q ++ (.obj D (.deferred (some [])) :: R))⟩)
    (left : ∀ D c q, L c q → LW P c ⟨⟨k0, markOf D :: df, true⟩, env, Hi' ++ (G q ++ (.obj D (.deferred (some [])) :: R))⟩ (after P t Q)) : LW P (.rangeFunc gop ps assign body) ⟨⟨k0, df, true⟩, env, H⟩ (after P t Q) :=
  LW.range (st := ⟨⟨k0, df, true⟩, env, H⟩) hg rfl hf hname hb it hps hit F G φ L p0 h0 hsub round done left
theorem Leaves.mark {P : Program} {rs : Array ResultVar} {R H' : List Atom} {post : LV → List Atom → Prop} {s : LS} {r : LV} {D : Nat} (k : Nat) (hk : s.heap[k]? = some (.obj D (.deferred (some [])))) (hd : s.n.df = [markOf D]) (hr : Res P rs ⟨s.n, s.env, s.heap.eraseIdx k⟩ r) (hh : HSub (s.heap.eraseIdx k) (H' ++ R)) (hp : post r H') : Leaves P rs R post s := fun w0 ph a w fn hfn rl => by
  rw [rl.defers.1, hd]
  have hi := rl.inv.front k
  unfold L.front at hi
  rw [hk] at hi
  have hi2 := (HSub.drop (HSub.refl _)).app (hi.putObj (.deferred none))
  obtain ⟨v, hrun, hrep⟩ := hr w0 ph a _ fn hfn ⟨hi2, rl.defers, rl.size, rl.tmps⟩
  exact ⟨by simp, .inl ⟨D, _, rfl, run_takeDeferred hi.obj_at, v, hrun, v, ph, r, H', rfl, PH.le.refl _, hh.app hi2, hrep, hp⟩⟩
end Go.L
namespace Go.L
open Go.RowKit
section
variable {P : Program} {env : List (Nat × LV)} {H : List Atom} {d : Option Tmp} {ty : TypeId} {pos : String} {af : Array Edge} {g : Option (Nat × Bool)}
end
end Go.L
namespace Go.L
open Go.RowKit
section
variable {P : Program} {ops : Array Oper} {K : LS → Prop}
theorem left_set {S : Array Bool} {i : Nat} (hi : i < ops.size) (h : S.getD i true = false) : left (S.setIfInBounds i true) (List.range ops.size) < left S (List.range ops.size) := by
  have hi2 : i < S.size := by
    by_cases hlt : i < S.size
    · exact hlt
    · rw [Array.getD_eq_getD_getElem?, Array.getElem?_eq_none (by omega)] at h; cases h
  refine left_lt hi2 ?_ _ (List.mem_range.2 hi)
  rw [Array.getD_eq_getD_getElem?, Array.getElem?_eq_getElem hi2] at h ⊢
  exact h
/-- What each operation keeps, whatever is done already, holds at the end. -/
theorem LA.inv {I : Array Bool → LS → Prop} (step : ∀ S st i, I S st → i ∈ Region.ready .any ops S → ∃ o, ops[i]? = some o ∧ LP P ops o st (fun s => I (S.setIfInBounds i true) s)) (fin : ∀ S st, I S st → Region.ready .any ops S = [] → K st) :
    ∀ fuel S st, left S (List.range ops.size) ≤ fuel → I S st → LA P ops fuel S st K
  | fuel, S, st, hf, hI => by
    cases hr : Region.ready .any ops S with
    | nil => exact LA.done hr (fin S st hI hr)
    | cons i rs =>
      have hmem : ∀ j ∈ i :: rs, j ∈ Region.ready .any ops S := fun j hj => by rw [hr]; exact hj
      obtain ⟨h1, h2, _⟩ := ready_iff.1 (hmem i (by simp))
      have hpos := left_set h2 h1
      cases fuel with
      | zero => omega
      | succ n =>
        refine LA.step hr ?_
        have all : ∀ l : List Nat, (∀ j ∈ l, j ∈ Region.ready .any ops S) → LAs P ops n S st K l := by
          intro l
          induction l with
          | nil => intro _; exact .nil
          | cons j l ih =>
            intro hl
            obtain ⟨o, ho, hp⟩ := step S st j hI (hl j (by simp))
            obtain ⟨g1, g2, _⟩ := ready_iff.1 (hl j (by simp))
            have hlt := left_set g2 g1
            refine .cons ho rfl (fun w0 ph a w r N Q k => hp w0 ph a w r N Q fun ph' st' a' w' hle r' q => k ph' st' a' w' hle r' (LA.inv step fin n _ st' (by omega) q)) (ih fun q hq => hl q (by simp [hq]))
        exact all _ hmem
/-- What is known at a state is known at another one. -/
def Weaker (s t : LS) : Prop := s.n = t.n ∧ (∀ d, Is (get s.env d) (get t.env d)) ∧ HSub s.heap t.heap
theorem Weaker.rels {s t : LS} (h : Weaker s t) {w0 : Base} {ph : PH} {a : Act} {w : World} (r : Rels w0 ph s a w) : Rels w0 ph t a w := by
  obtain ⟨h1, h2, h3⟩ := h
  obtain ⟨r1, r2, r3, r4⟩ := r
  exact ⟨h3.app r1, by rw [← h1]; exact r2, by rw [← h1]; exact r3, fun d => h2 d _ _ (r4 d)⟩
theorem Weaker.lp {o : Oper} {s t : LS} (h : Weaker s t) {K' : LS → Prop} (hp : LP P ops o t K') : LP P ops o s K' := fun w0 ph a w r N Q k => hp w0 ph a w (h.rels r) N Q k
/-- The slots of a drawn region's operations, as0 far as0 they are done. -/
def envS (sl : List (Nat × Nat)) (val : Nat → LV) (f : Nat → Bool) (env : List (Nat × LV)) : List (Nat × LV) := sl.map (fun p => (p.2, cond (f p.1) (val p.2) .any)) ++ env
def upd (f : Nat → Bool) (i j : Nat) : Bool := cond (Nat.beq j i) true (f j)
theorem envS_start (val : Nat → LV) (f : Nat → Bool) (env : List (Nat × LV)) : ∀ (sl : List (Nat × Nat)), (∀ p ∈ sl, f p.1 = false) → ∀ d, Is (get env d) (get (envS sl val f env) d)
  | [], _, d => fun _ _ h => h
  | p :: sl, h, d => by
    show Is (get env d) (get ((p.2, cond (f p.1) (val p.2) .any) :: envS sl val f env) d)
    by_cases hd : p.2 = d
    · subst hd
      rw [get_same, h p (by simp)]
      exact Is.any
    · rw [get_other hd]
      exact envS_start val f env sl (fun q hq => h q (by simp [hq])) d
theorem getD_upd {S : Array Bool} {i : Nat} (hi : i < S.size) : (fun j => (S.setIfInBounds i true).getD j true) = upd (fun j => S.getD j true) i := by
  funext j
  rw [getD_set hi]
  unfold upd
  by_cases h : j = i
  · subst h; simp
  · have : Nat.beq j i = false := by
      cases hb : Nat.beq j i with
      | false => rfl
      | true => exact absurd (Nat.eq_of_beq_eq_true hb) h
    rw [if_neg h, this]; rfl
theorem all_done {S : Array Bool} (hs : S.size = ops.size) (hlt : ((List.range ops.size).all fun i => (direct ops i).all fun j => Nat.blt j i) = true) (hr : Region.ready .any ops S = []) : ∀ j, S.getD j true = true := by
  intro j
  induction j using Nat.strongRecOn with
  | _ j ih =>
    cases hj : S.getD j true with
    | true => rfl
    | false =>
      have hjs : j < ops.size := by
        by_cases h : j < ops.size
        · exact h
        · rw [Array.getD_eq_getD_getElem?, Array.getElem?_eq_none (by omega)] at hj; cases hj
      have : j ∈ Region.ready .any ops S := ready_iff.2 ⟨hj, hjs, fun k hk => by
        have h1 := List.all_eq_true.1 (List.all_eq_true.1 hlt j (List.mem_range.2 hjs)) k hk
        have hkj : k < j := Nat.le_of_ble_eq_true h1
        have h2 := ih k hkj
        rw [Array.getD_eq_getD_getElem?, Array.getElem?_eq_getElem (by omega)] at h2 ⊢
        exact h2⟩
      rw [hr] at this
      cases this
/-- A region that draws its order: each operation once, whatever else is done. -/
theorem LW.inv {id m : Nat} {n : NN} {env : List (Nat × LV)} {H : List Atom} {Q : Exit → LS → Prop} {γ : Type} (sl : List (Nat × Nat)) (val : γ → Nat → LV) (hp : γ → (Nat → Bool) → List Atom) (g0 : γ)
    (hmo : P.follows .mixedOrders = true) (hm : ops.size = m) (hsl : (sl.all fun p => Nat.blt p.1 m) = true) (hlt : ((List.range m).all fun i => (direct ops i).all fun j => Nat.blt j i) = true)
    (init : HSub H (hp g0 fun j => (Array.replicate m false).getD j true))
    (each : ∀ i, i < m → ∀ f g, f i = false → (∀ j ∈ direct ops i, f j = true) → (∀ j, j < m → f j = true → ∀ k ∈ direct ops j, f k = true) → ∃ o, ops[i]? = some o ∧ LP P ops o ⟨n, envS sl (val g) f env, hp g f⟩ (fun s => ∃ g', Weaker s ⟨n, envS sl (val g') (upd f i) env, hp g' (upd f i)⟩))
    (fin : ∀ g, Q .normal ⟨n, envS sl (val g) (fun _ => true) env, hp g (fun _ => true)⟩) (hfin : ∀ s t, Weaker s t → Q .normal t → Q .normal s) (hnd : noDefer ops.toList = true := by kernel_rfl) : LW P (.region id ops true) ⟨n, env, H⟩ Q := by
  subst hm
  refine LW.all hmo (LA.inv (I := fun S s => S.size = ops.size ∧ Down ops S ∧ ∃ g, Weaker s ⟨n, envS sl (val g) (fun j => S.getD j true) env, hp g (fun j => S.getD j true)⟩) ?_ ?_ ops.size _ _ ?_ ?_) hnd
  · rintro S st i ⟨hs, hd, g, hw⟩ hi
    obtain ⟨h1, h2, h3⟩ := ready_iff.1 hi
    have tf : ∀ j, S.getD j false = true → S.getD j true = true := fun j h => by
      by_cases hj : j < S.size
      · rw [Array.getD_eq_getD_getElem?, Array.getElem?_eq_getElem hj] at h ⊢; exact h
      · rw [Array.getD_eq_getD_getElem?, Array.getElem?_eq_none (by omega)]; rfl
    obtain ⟨o, ho, hlp⟩ := each i h2 (fun j => S.getD j true) g h1 (fun j hj => tf j (h3 j hj)) (fun j hj hf k hk => tf k (hd j (by rw [Array.getD_eq_getD_getElem?, Array.getElem?_eq_getElem (by omega)] at hf ⊢; exact hf) k hk))
    refine ⟨o, ho, hw.lp fun w0 ph a w r N Q' k => hlp w0 ph a w r N Q' fun ph' st' a' w' hle r' q => k ph' st' a' w' hle r' ⟨by simp [hs], fun j hj q' hq' => ?_, ?_⟩⟩
    · rw [getD_set (by omega)] at hj ⊢
      by_cases hqi : q' = i
      · rw [if_pos hqi]
      · rw [if_neg hqi]
        by_cases hji : j = i
        · subst hji; exact h3 q' hq'
        · rw [if_neg hji] at hj; exact hd j hj q' hq'
    · rw [getD_upd (by omega)]; exact q
  · rintro S st ⟨hs, hd, g, hw⟩ hr
    have hall := all_done hs hlt hr
    have e : (fun j => S.getD j true) = fun _ => true := funext hall
    rw [e] at hw
    exact hfin _ _ hw (fin g)
  · have : ∀ (S : Array Bool) (l : List Nat), left S l ≤ l.length := fun S l => by
      induction l with
      | nil => simp [left]
      | cons a l ih => simp only [left, List.length_cons]; split <;> omega
    have := this (Array.replicate ops.size false) (List.range ops.size)
    simpa using this
  · have hz : ∀ p ∈ sl, (Array.replicate ops.size false).getD p.1 true = false := fun p hp' => by
      have := Nat.le_of_ble_eq_true (List.all_eq_true.1 hsl p hp')
      rw [Array.getD_eq_getD_getElem?, Array.getElem?_replicate, if_pos (by omega)]; rfl
    refine ⟨by simp, fun i hi => by simp [Array.getD_eq_getD_getElem?, Array.getElem?_replicate] at hi; split at hi <;> simp_all, g0, rfl, ?_, init⟩
    exact envS_start (val g0) (fun j => (Array.replicate ops.size false).getD j true) env sl hz
theorem LP.weak {n : NN} {env : List (Nat × LV)} {H : List Atom} {o : Oper} {t : Nat} {v : LV} (hs : Is (get env t) v) (h : LP P ops o ⟨n, (t, v) :: env, H⟩ K) : LP P ops o ⟨n, env, H⟩ K :=
  Weaker.lp (s := ⟨n, env, H⟩) (t := ⟨n, (t, v) :: env, H⟩) ⟨rfl, fun d => by
    show Is (get env d) (get ((t, v) :: env) d)
    by_cases hd : t = d
    · subst hd; rw [get_same]; exact hs
    · rw [get_other hd]; exact fun _ _ h => h, HSub.refl _⟩ h
theorem LP.ghost {n : NN} {env : List (Nat × LV)} {H H' : List Atom} {o : Oper} (hs : HSub H H') (h : LP P ops o ⟨n, env, H'⟩ K) : LP P ops o ⟨n, env, H⟩ K :=
  Weaker.lp (s := ⟨n, env, H⟩) (t := ⟨n, env, H'⟩) ⟨rfl, fun d _ _ h => h, hs⟩ h
theorem envS_get {val : Nat → LV} {f : Nat → Bool} {env : List (Nat × LV)} : ∀ {sl : List (Nat × Nat)} {j d : Nat}, (sl.find? fun p => Nat.beq p.2 d) = some (j, d) → get (envS sl val f env) d = cond (f j) (val d) .any
  | [], j, d, h => by cases h
  | p :: sl, j, d, h => by
    show get ((p.2, cond (f p.1) (val p.2) .any) :: envS sl val f env) d = _
    rw [List.find?_cons] at h
    cases hb : Nat.beq p.2 d with
    | true =>
      rw [hb] at h
      have := Nat.eq_of_beq_eq_true hb
      simp at h
      subst h
      rw [get_same]
    | false =>
      rw [hb] at h
      rw [get_other (fun e => by rw [e, Nat.beq_refl] at hb; cases hb)]
      exact envS_get h
/-- A slot whose operation is done. -/
theorem envS_is {val : Nat → LV} {f : Nat → Bool} {env : List (Nat × LV)} {sl : List (Nat × Nat)} {j d : Nat} (hs : (sl.find? fun p => Nat.beq p.2 d) = some (j, d)) (hf : f j = true) : Is (get (envS sl val f env) d) (val d) := by
  rw [envS_get hs, hf]; exact fun _ _ h => h
theorem envS_next {val val' : Nat → LV} {f : Nat → Bool} {i di : Nat} {env : List (Nat × LV)} : ∀ {sl : List (Nat × Nat)}, (∀ p ∈ sl, p.2 ≠ di → Nat.beq p.1 i = false ∧ val' p.2 = val p.2) → ∀ d, d ≠ di → Is (get (envS sl val f env) d) (get (envS sl val' (upd f i) env) d)
  | [], _, d, _ => fun _ _ h => h
  | p :: sl, h, d, hd => by
    show Is (get ((p.2, cond (f p.1) (val p.2) .any) :: envS sl val f env) d) (get ((p.2, cond (upd f i p.1) (val' p.2) .any) :: envS sl val' (upd f i) env) d)
    by_cases hp : p.2 = d
    · subst hp
      obtain ⟨h1, h2⟩ := h p (by simp) hd
      rw [get_same, get_same, h2]
      unfold upd
      rw [h1]
      exact fun _ _ h => h
    · rw [get_other hp, get_other hp]
      exact envS_next (fun q hq => h q (by simp [hq])) d hd
/-- Behind an operation: its slot is written, the overrides are as0 they were. -/
theorem env_back {di : Nat} {v : LV} {pre l l' : List (Nat × LV)} (hv : Is v (get l' di)) (hp : ∀ p ∈ pre, p.1 ≠ di → Is p.2 (get l' p.1)) (hl : ∀ d, d ≠ di → Is (get l d) (get l' d)) : ∀ d, Is (get ((di, v) :: (pre ++ l)) d) (get l' d) := fun d => by
  by_cases hd : di = d
  · subst hd; rw [get_same]; exact hv
  · rw [get_other hd]
    have : ∀ q : List (Nat × LV), (∀ p ∈ q, p.1 ≠ di → Is p.2 (get l' p.1)) → Is (get (q ++ l) d) (get l' d) := fun q hq => by
      induction q with
      | nil => exact hl d (fun e => hd e.symm)
      | cons p q ih =>
        show Is (get ((p.1, p.2) :: (q ++ l)) d) (get l' d)
        by_cases hpd : p.1 = d
        · subst hpd; rw [get_same]; exact hq p (by simp) (fun e => hd e.symm)
        · rw [get_other hpd]; exact ih fun r hr => hq r (by simp [hr])
    exact this pre hp
theorem envS_hit {v : LV} {val : Nat → LV} {f : Nat → Bool} {env : List (Nat × LV)} {sl : List (Nat × Nat)} {j d : Nat} (hs : (sl.find? fun p => Nat.beq p.2 d) = some (j, d)) (hv : Is v (val d)) : Is v (get (envS sl val f env) d) := by
  rw [envS_get hs]
  cases f j
  · exact Is.any
  · exact hv
theorem env_back0 {di : Nat} {v : LV} {l l' : List (Nat × LV)} (hv : Is v (get l' di))  (hl : ∀ d, d ≠ di → Is (get l d) (get l' d)) : ∀ d, Is (get ((di, v) :: l) d) (get l' d) :=
  env_back (pre := []) hv (fun p hp _ => by cases hp) hl
theorem env_back1 {di : Nat} {v : LV} {l l' : List (Nat × LV)} {d0 : Nat} {v0 : LV} (hv : Is v (get l' di)) (h0 : Is v0 (get l' d0)) (hl : ∀ d, d ≠ di → Is (get l d) (get l' d)) : ∀ d, Is (get ((di, v) :: (d0, v0) :: l) d) (get l' d) :=
  env_back (pre := [(d0, v0)]) hv (fun p hp _ => by
    simp only [List.mem_cons, List.not_mem_nil, or_false] at hp
    rcases hp with rfl <;> assumption) hl
theorem env_back2 {di : Nat} {v : LV} {l l' : List (Nat × LV)} {d0 d1 : Nat} {v0 v1 : LV} (hv : Is v (get l' di)) (h0 : Is v0 (get l' d0)) (h1 : Is v1 (get l' d1)) (hl : ∀ d, d ≠ di → Is (get l d) (get l' d)) : ∀ d, Is (get ((di, v) :: (d0, v0) :: (d1, v1) :: l) d) (get l' d) :=
  env_back (pre := [(d0, v0), (d1, v1)]) hv (fun p hp _ => by
    simp only [List.mem_cons, List.not_mem_nil, or_false] at hp
    rcases hp with rfl | rfl <;> assumption) hl
theorem env_back3 {di : Nat} {v : LV} {l l' : List (Nat × LV)} {d0 d1 d2 : Nat} {v0 v1 v2 : LV} (hv : Is v (get l' di)) (h0 : Is v0 (get l' d0)) (h1 : Is v1 (get l' d1)) (h2 : Is v2 (get l' d2)) (hl : ∀ d, d ≠ di → Is (get l d) (get l' d)) : ∀ d, Is (get ((di, v) :: (d0, v0) :: (d1, v1) :: (d2, v2) :: l) d) (get l' d) :=
  env_back (pre := [(d0, v0), (d1, v1), (d2, v2)]) hv (fun p hp _ => by
    simp only [List.mem_cons, List.not_mem_nil, or_false] at hp
    rcases hp with rfl | rfl | rfl <;> assumption) hl
theorem env_back5 {di : Nat} {v : LV} {l l' : List (Nat × LV)} {d0 d1 d2 d3 d4 : Nat} {v0 v1 v2 v3 v4 : LV} (hv : Is v (get l' di)) (h0 : Is v0 (get l' d0)) (h1 : Is v1 (get l' d1)) (h2 : Is v2 (get l' d2)) (h3 : Is v3 (get l' d3)) (h4 : Is v4 (get l' d4)) (hl : ∀ d, d ≠ di → Is (get l d) (get l' d)) : ∀ d, Is (get ((di, v) :: (d0, v0) :: (d1, v1) :: (d2, v2) :: (d3, v3) :: (d4, v4) :: l) d) (get l' d) :=
  env_back (pre := [(d0, v0), (d1, v1), (d2, v2), (d3, v3), (d4, v4)]) hv (fun p hp _ => by
    simp only [List.mem_cons, List.not_mem_nil, or_false] at hp
    rcases hp with rfl | rfl | rfl | rfl | rfl <;> assumption) hl
theorem Weaker.mk' {n : NN} {e e' : List (Nat × LV)} {H H' : List Atom} (h : ∀ d, Is (get e d) (get e' d)) (k : HSub H H') : Weaker ⟨n, e, H⟩ ⟨n, e', H'⟩ := ⟨rfl, h, k⟩
end
end Go.L
namespace Go.L
open Go.RowKit
section
variable {P : Program} {env : List (Nat × LV)} {H : List Atom} {d : Option Tmp} {ty : TypeId} {pos : String} {af : Array Edge} {g : Option (Nat × Bool)} {st : LS} {K : LS → Prop}
end
end Go.L
namespace Go.L
open Go.RowKit
/-- An iterator whose items come with memory of their own: J says what an item's arguments are, and what is owned with them. -/
def LIterW (P : Program) (gf : FuncId) (caps : Array Value) {ι : Type} (items : List ι) (J : ι → List LV → List Atom → Prop) (Hi Hi' : List Atom) : Prop :=
  ∀ (α β : Type) (F : α → List Atom) (G : β → List Atom) (φ : Nat → α → Prop) (ψ : β → Prop) (yv : Value), yv.oneCell' = true →
    (∀ k p y x Hx, items[k]? = some y → J y x Hx → φ k p → LYields P yv x (Hx ++ F p) (fun r H' => (∃ q, r = .raw (.bool true) ∧ φ (k + 1) q ∧ H' = F q) ∨ (∃ q, r = .raw (.bool false) ∧ ψ q ∧ H' = G q))) →
    ∀ p0, φ 0 p0 → LCalls P gf (.raw yv :: raws caps.toList) (Hi ++ F p0) (fun r H' => (∃ q, φ items.length q ∧ H' = Hi' ++ F q) ∨ (∃ q, ψ q ∧ H' = Hi' ++ G q))
section
variable {P : Program} {ops : Array Oper} {K : LS → Prop}
theorem getD_tf {S : Array Bool} {j : Nat} (h : S.getD j false = true) : S.getD j true = true := by
  by_cases hj : j < S.size
  · rw [Array.getD_eq_getD_getElem?, Array.getElem?_eq_getElem hj] at h ⊢; exact h
  · rw [Array.getD_eq_getD_getElem?, Array.getElem?_eq_none (by omega)]; rfl
theorem getD_ft {S : Array Bool} {j : Nat} (hj : j < S.size) (h : S.getD j true = true) : S.getD j false = true := by
  rw [Array.getD_eq_getD_getElem?, Array.getElem?_eq_getElem hj] at h ⊢; exact h
theorem LA.invM {m : Nat} (hok : DrawOk ops m) (hm : m ≤ ops.size) {I : Array Bool → LS → Prop} (l2 : List Oper) (hl2 : m + l2.length = ops.size) (hget : ∀ j, j < l2.length → ops[m + j]? = l2[j]?)
    (step : ∀ S st i, I S st → S.size = ops.size → Down ops S → i < m → i ∈ Region.ready .any ops S → ∃ o, ops[i]? = some o ∧ LP P ops o st (fun s => I (S.setIfInBounds i true) s))
    (fin : ∀ S st, I S st → (∀ j, j < m → S.getD j true = true) → LL P ops l2 st K) :
    ∀ fuel S st, S.size = ops.size → Down ops S → (∀ i, m ≤ i → i < ops.size → S.getD i true = false) → left S (List.range ops.size) ≤ fuel → I S st → LA P ops fuel S st K
  | fuel, S, st, hs, hd, hz, hf, hI => by
    by_cases hall : ∀ j, j < m → S.getD j true = true
    · intro w0 ph a w r Q kk
      refine oany_tail hok l2 m fuel S a w (Nat.le_refl _) hl2 hget hs (fun j hj => ⟨fun h => ?_, hall j⟩) ?_ (fin S st hI hall w0 ph a w r Q kk)
      · by_cases hjm : j < m
        · exact hjm
        · rw [hz j (by omega) hj] at h; cases h
      · have : ∀ (k : Nat) (l : List Nat), (∀ i ∈ l, S.getD i true = false) → l.length ≤ left S l := fun k l => by
          induction l with
          | nil => intro _; simp [left]
          | cons x l ih =>
            intro h
            have h1 := ih fun i hi => h i (by simp [hi])
            have h2 := h x (by simp)
            simp only [left, h2, List.length_cons]
            simp
            omega
        have hsplit : ∀ (a b : List Nat), left S (a ++ b) = left S a + left S b := fun a b => by
          induction a with
          | nil => simp [left]
          | cons x a ih => simp only [List.cons_append, left, ih]; omega
        have e : List.range ops.size = List.range m ++ (List.range l2.length).map (m + ·) := by rw [← hl2, List.range_add]
        rw [e, hsplit] at hf
        have h3 := this 0 ((List.range l2.length).map (m + ·)) fun i hi => by
          obtain ⟨q, hq, rfl⟩ := List.mem_map.1 hi
          exact hz _ (by omega) (by have := List.mem_range.1 hq; omega)
        simp only [List.length_map, List.length_range] at h3
        omega
    · cases hr : Region.ready .any ops S with
      | nil =>
        refine absurd (fun j hj => ?_) hall
        have hlt : ((List.range ops.size).all fun i => (direct ops i).all fun j => Nat.blt j i) = true := List.all_eq_true.2 fun i hi => List.all_eq_true.2 fun j hj => Nat.ble_eq_true_of_le (hok.less i (List.mem_range.1 hi) j hj)
        exact all_done hs hlt hr j
      | cons i rs =>
        have hmem : ∀ j ∈ i :: rs, j ∈ Region.ready .any ops S := fun j hj => by rw [hr]; exact hj
        have hlm : ∀ j ∈ Region.ready .any ops S, j < m := fun j hj => by
          obtain ⟨h1, h2, h3⟩ := ready_iff.1 hj
          by_cases hjm : j < m
          · exact hjm
          · refine absurd (fun k hk => ?_) hall
            exact getD_tf (clo_down hok hd j k h2 (by omega) (hok.last j k h2 (by omega) (by omega)) h3)
        obtain ⟨h1, h2, _⟩ := ready_iff.1 (hmem i (by simp))
        have hpos := left_set h2 h1
        cases fuel with
        | zero => omega
        | succ n =>
          refine LA.step hr ?_
          have all : ∀ l : List Nat, (∀ j ∈ l, j ∈ Region.ready .any ops S) → LAs P ops n S st K l := by
            intro l
            induction l with
            | nil => intro _; exact .nil
            | cons j l ih =>
              intro hl
              have hj := hl j (by simp)
              obtain ⟨o, ho, hp⟩ := step S st j hI hs hd (hlm j hj) hj
              obtain ⟨g1, g2, g3⟩ := ready_iff.1 hj
              have hlt := left_set g2 g1
              have hjm := hlm j hj
              refine .cons ho rfl (fun w0 ph a w r N Q k => hp w0 ph a w r N Q fun ph' st' a' w' hle r' q => k ph' st' a' w' hle r' (LA.invM hok hm l2 hl2 hget step fin n _ st' (by simp [hs]) ?_ ?_ (by omega) q)) (ih fun q hq => hl q (by simp [hq]))
              · intro x hx y hy
                rw [getD_set (by omega)] at hx ⊢
                by_cases hyj : y = j
                · rw [if_pos hyj]
                · rw [if_neg hyj]
                  by_cases hxj : x = j
                  · subst hxj; exact g3 y hy
                  · rw [if_neg hxj] at hx; exact hd x hx y hy
              · intro x hx hxs
                rw [getD_set (by omega), if_neg (by omega)]
                exact hz x hx hxs
          exact all _ hmem
theorem envS_all {val : Nat → LV} {f : Nat → Bool} {env : List (Nat × LV)} : ∀ {sl : List (Nat × Nat)}, (∀ p ∈ sl, f p.1 = true) → envS sl val f env = envS sl val (fun _ => true) env
  | [], _ => rfl
  | p :: sl, h => by
    show (p.2, cond (f p.1) (val p.2) .any) :: envS sl val f env = (p.2, val p.2) :: envS sl val (fun _ => true) env
    rw [h p (by simp), envS_all fun q hq => h q (by simp [hq])]
    rfl
/-- A region that draws its order: its first m operations each once, whatever else of them is done; then the others. -/
theorem LW.invM {id m : Nat} {n : NN} {env : List (Nat × LV)} {H : List Atom} {l : List Oper} {Q : Exit → LS → Prop} {γ : Type} (sl : List (Nat × Nat)) (val : γ → Nat → LV) (hp : γ → (Nat → Bool) → List Atom) (g0 : γ)
    (hmo : P.follows .mixedOrders = true) (hok : drawOk l.toArray m = true) (hm : Nat.ble m l.length = true) (hsl : (sl.all fun p => Nat.blt p.1 m) = true)
    (init : HSub H (hp g0 fun j => (Array.replicate l.length false).getD j true))
    (each : ∀ i, i < m → ∀ f g, f i = false → (∀ j ∈ direct l.toArray i, f j = true) → (∀ j, j < m → f j = true → ∀ k ∈ direct l.toArray j, f k = true) → ∃ o, l.toArray[i]? = some o ∧ LP P l.toArray o ⟨n, envS sl (val g) f env, hp g f⟩ (fun s => ∃ g', Weaker s ⟨n, envS sl (val g') (upd f i) env, hp g' (upd f i)⟩))
    (fin : ∀ g f, (∀ j, j < m → f j = true) → LL P l.toArray (l.drop m) ⟨n, envS sl (val g) (fun _ => true) env, hp g f⟩ (fun s => Q .normal s)) (hnd : noDefer l = true := by kernel_rfl) : LW P (.region id l.toArray true) ⟨n, env, H⟩ Q := by
  have hm' : m ≤ l.length := Nat.le_of_ble_eq_true hm
  have hO := DrawOk.of hok
  have hsz : l.toArray.size = l.length := by simp
  refine LW.all hmo (LA.invM hO (by omega) (I := fun S s => ∃ g, Weaker s ⟨n, envS sl (val g) (fun j => S.getD j true) env, hp g (fun j => S.getD j true)⟩) (l.drop m) (by simp; omega) (fun j hj => by simp) ?_ ?_ l.toArray.size _ _ (by simp) ?_ ?_ ?_ ?_) hnd
  · rintro S st i ⟨g, hw⟩ hs hd him hi
    obtain ⟨h1, h2, h3⟩ := ready_iff.1 hi
    obtain ⟨o, ho, hlp⟩ := each i him (fun j => S.getD j true) g h1 (fun j hj => getD_tf (h3 j hj)) (fun j hj hf k hk => getD_tf (hd j (getD_ft (by omega) hf) k hk))
    refine ⟨o, ho, hw.lp fun w0 ph a w r N Q' k => hlp w0 ph a w r N Q' fun ph' st' a' w' hle r' q => k ph' st' a' w' hle r' ?_⟩
    rw [getD_upd (by omega)]; exact q
  · rintro S st ⟨g, hw⟩ hall
    have e := envS_all (val := val g) (f := fun j => S.getD j true) (env := env) (sl := sl) fun p hp' => hall p.1 (Nat.le_of_ble_eq_true (List.all_eq_true.1 hsl p hp'))
    rw [e] at hw
    intro w0 ph a w r Q' kk
    exact fin g _ hall w0 ph a w (hw.rels r) Q' kk
  · intro i hi
    simp [Array.getD_eq_getD_getElem?, Array.getElem?_replicate] at hi
    split at hi <;> simp_all
  · intro i hi1 hi2
    rw [Array.getD_eq_getD_getElem?, Array.getElem?_replicate, if_pos hi2]; rfl
  · have : ∀ (S : Array Bool) (l : List Nat), left S l ≤ l.length := fun S l => by
      induction l with
      | nil => simp [left]
      | cons a l ih => simp only [left, List.length_cons]; split <;> omega
    have := this (Array.replicate l.toArray.size false) (List.range l.toArray.size)
    simpa using this
  · have hz : ∀ p ∈ sl, (Array.replicate l.toArray.size false).getD p.1 true = false := fun p hp' => by
      have := Nat.le_of_ble_eq_true (List.all_eq_true.1 hsl p hp')
      rw [Array.getD_eq_getD_getElem?, Array.getElem?_replicate, if_pos (by omega)]; rfl
    refine ⟨g0, rfl, envS_start (val g0) (fun j => (Array.replicate l.toArray.size false).getD j true) env sl hz, ?_⟩
    rw [hsz]
    exact init
end
/-- A plain iterator, as0 one whose items own nothing. -/
theorem LIter.w {P : Program} {gf : FuncId} {caps : Array Value} {items : List (List LV)} {Hi Hi' : List Atom} (h : LIter P gf caps items Hi Hi') : LIterW P gf caps items (fun y x Hx => x = y ∧ Hx = []) Hi Hi' :=
  fun α β F G φ ψ yv _ hy p0 h0 => h α β F G φ ψ yv (fun k p x hx hp => hy k p x x [] hx ⟨rfl, rfl⟩ hp) p0 h0
theorem LU.nilMEqS {P : Program} {env : List (Nat × LV)} {H : List Atom} {d : Option Tmp} {ty : TypeId} {pos : String} {af : Array Edge} {g : Option (Nat × Bool)} {x y : Operand} {t t' : TypeId} {kt et : TypeId} {b : Nat} (ht : P.underlying t = some (.map kt et)) (hx : Is (ev env x) (.raw (.map (some b)))) (hy : Is (ev env y) (.raw (.map none))) : LU P env H ⟨d, .binOp .eql t x y t', ty, pos, af, g⟩ (.raw (.bool false)) := .raw fun ac hl w => by
  have h1 := hl x (by simp [Op.operands]) _ hx
  have h2 := hl y (by simp [Op.operands]) _ hy
  have he : (Op.equal t (.map (some b)) (.map none)).run P w = .ok false w := by
    rw [show Op.equal t (.map (some b)) (.map none) = Op.equalIn (9999 + 1) t (.map (some b)) (.map none) from rfl, Op.equalIn]
    rw [Sem.run_bind, run_underlying ht, Result.andThen_ok]
    rfl
  have hg : (eqGuard .eql t x y (.map (some b)) (.map none)).run P w = .ok () w := by unfold eqGuard; simp
  have hb : binOp .eql t (.map (some b)) (.map none) = (do pure (.bool ((← Op.equal t (.map (some b)) (.map none))))) := by rfl
  simp only [execOp, h1, h2, Sem.run_bind, hg, Result.andThen_ok, hb, he, Sem.run_pure] <;> rfl
end Go.L
namespace Go.L
open Go.RowKit
section
variable {P : Program} {env : List (Nat × LV)} {H : List Atom} {d : Option Tmp} {ty : TypeId} {pos : String} {af : Array Edge} {g : Option (Nat × Bool)} {st : LS} {K : LS → Prop}
/-- What a call of a function value gives. -/
def FnCalls (P : Program) (v : Value) (args : List LV) (H : List Atom) (post : LV → List Atom → Prop) : Prop :=
  ∃ (f : FuncId) (fn : Func) (first caps : Array Value), v = .func (.func f) first caps ∧ P.funcs[f]? = some fn ∧ (fn.name == "runtime.NumGoroutine") = false ∧ fn.body.isSome = true ∧ LCalls P f (raws first.toList ++ (args ++ raws caps.toList)) H post
theorem FnCalls.mono {v : Value} {args : List LV} {H : List Atom} {post post' : LV → List Atom → Prop} (h : FnCalls P v args H post) (hp : ∀ r H', post r H' → post' r H') : FnCalls P v args H post' := by
  obtain ⟨f, fn, first, caps, h1, h2, h3, h4, h5⟩ := h
  exact ⟨f, fn, first, caps, h1, h2, h3, h4, h5.mono hp⟩
/-- A function by its name. -/
theorem FnCalls.named {f : FuncId} {fn : Func} {args : List LV} {H : List Atom} {post : LV → List Atom → Prop} (hf : P.funcs[f]? = some fn) (hname : (fn.name == "runtime.NumGoroutine") = false) (hb : fn.body.isSome = true) (h : LCalls P f args H post) : FnCalls P (.func (.func f) #[] #[]) args H post :=
  ⟨f, fn, #[], #[], rfl, hf, hname, hb, by simpa [raws] using h⟩
/-- A closure. -/
theorem FnCalls.closure {f : FuncId} {fn : Func} {caps : Array Value} {args : List LV} {H : List Atom} {post : LV → List Atom → Prop} (hf : P.funcs[f]? = some fn) (hname : (fn.name == "runtime.NumGoroutine") = false) (hb : fn.body.isSome = true) (h : LCalls P f (args ++ raws caps.toList) H post) : FnCalls P (.func (.func f) #[] caps) args H post :=
  ⟨f, fn, #[], caps, rfl, hf, hname, hb, by simpa [raws] using h⟩
/-- A method bound to its receiver. -/
theorem FnCalls.bound {f : FuncId} {fn : Func} {v : Value} {args : List LV} {H : List Atom} {post : LV → List Atom → Prop} (hf : P.funcs[f]? = some fn) (hname : (fn.name == "runtime.NumGoroutine") = false) (hb : fn.body.isSome = true) (h : LCalls P f (.raw v :: args) H post) : FnCalls P (.func (.func f) #[v] #[]) args H post :=
  ⟨f, fn, #[v], #[], rfl, hf, hname, hb, by simpa [raws] using h⟩
theorem LO.callF {v : Value} {t : Operand} {as0 : Array Operand} {ts : Array TypeId} {vs : List LV} {Hc R : List Atom} {post : LV → List Atom → Prop} {d : Tmp} (hc : FnCalls P v vs Hc post) (ht : Is (ev st.env t) (.raw v)) (hd : Nat.blt d st.n.k = true) (hsub : HSub st.heap (Hc ++ R)) (ha : Opds st.env as0.toList vs)
    (h : ∀ r H', post r H' → K ⟨st.n, (d, r) :: st.env, H' ++ R⟩) : LO P ⟨some d, .call { callee := .value t, args := as0, argTypes := ts }, ty, pos, af, g⟩ st K := fun w0 ph a w r N Q k => by
  obtain ⟨f, fn, first, caps, rfl, hf, hname, hb, hc⟩ := hc
  have hargs := ha.reps (a := a) (ph := ph) (fun x _ => r.tmps.eval x)
  have htv := (ht _ _ (r.tmps.eval t)).rawE
  have hrun : (execOp a.eval ⟨some d, .call { callee := .value t, args := as0, argTypes := ts }, ty, pos, af, g⟩).run P w = .ok (.enter f (first ++ as0.map a.eval ++ caps)) w := by
    simp [execOp, resolve, htv, Deferred.ofValue, invoke, enters hf hname hb]
  unfold owp
  rw [hrun]
  refine upon_enter ?_
  refine (hc R w0 ph w (first ++ as0.map a.eval ++ caps) (hsub.app r.inv) (by rw [map_arr a.eval as0, Array.append_assoc]; exact (reps_raws first).append (hargs.append (reps_raws caps)))).mono ?_
  rintro e w' ⟨v, ph', x, H', rfl, hle, hi, hx, hp⟩
  exact k ph' _ _ w' hle (r.put hle hi hd hx) (h x H' hp)
theorem X.callF {n : NN} {v : Value} {t : Operand} {as0 : Array Operand} {ts : Array TypeId} {vs : List LV} {Hc R : List Atom} {post : LV → List Atom → Prop} {d : Tmp} (hc : FnCalls P v vs Hc post) (ht : Is (ev env t) (.raw v)) (hd : Nat.blt d n.k = true) (hsub : HSub H (Hc ++ R)) (ha : Opds env as0.toList vs)
    (h : ∀ r H', post r H' → K ⟨n, (d, r) :: env, H' ++ R⟩) : LO P ⟨some d, .call { callee := .value t, args := as0, argTypes := ts }, ty, pos, af, g⟩ ⟨n, env, H⟩ K := LO.callF (st := ⟨n, env, H⟩) hc ht hd hsub ha h
/-- x.m, a method bound. -/
theorem LU.bound {f : FuncId} {x : Operand} {v : Value} (h : Is (ev env x) (.raw v)) : LU P env H ⟨d, .makeFunc (.func f) #[x] #[], ty, pos, af, g⟩ (.raw (.func (.func f) #[v] #[])) := .of_run fun ph a hl w0 w hi => by
  have := (h _ _ (hl x (by simp [Op.operands]))).rawE
  refine ⟨_, ?_, .raw _⟩
  simp [execOp, Instr.makeFunc, this]
end
section
variable {P : Program} {b : Frame} {a : Act} {k : List Item} {cs : List Frame} {w : World}
theorem stepR_scope {c : Code} : step P (lone (b.atR a (.code (.scope c) :: k)) cs w) = .next (lone (b.atR a (.code c :: .inScope c :: k)) cs w) :=
  step_lone_go (by simp [stepG, stepG.exec, Frame.atR])
theorem stepR_inScope {c : Code} : step P (lone (b.atR a (.inScope c :: k)) cs w) = .next (lone (b.atR a k) cs w) :=
  step_lone_go (by simp [stepG, stepG.exec, Frame.atR])
theorem wpIn_scope {F : Fence} {n : Nat} {Q : Exit → Act → World → Prop} {c : Code} (h : c.wpIn F n P (Exit.noGoto Q) a w) : (Code.scope c).wpIn F n P Q a w := by
  intro b k cs hro hb hr
  have h0 : (lone (b.atR a (.code (.scope c) :: k)) cs w).fenced P F := fenced_calm hb hr rfl
  obtain ⟨e, a₁, w₁, hq, harr⟩ := h b (.inScope c :: k) cs hro hb hr
  cases e with
  | normal => exact ⟨.normal, a₁, w₁, hq, .head h0 stepR_scope (StepsIn.trans harr (.one (fenced_calm hb hr rfl) stepR_inScope))⟩
  | exit id =>
    have hx : exitTo id (.inScope c :: k) = exitTo id k := by simp [exitTo]
    exact ⟨.exit id, a₁, w₁, hq, fun k' hk => .head h0 stepR_scope (harr.1 k' (by rw [hx]; exact hk)),
      fun hr' hk => let ⟨k₁, h1, h2⟩ := harr.2 hr' (by rw [hx]; exact hk); ⟨k₁, h1, .head h0 stepR_scope h2⟩⟩
  | goto l => exact hq.elim
  | ret => exact ⟨_, a₁, w₁, hq, .of_steps (.one h0 stepR_scope) harr⟩
  | panic ch => exact ⟨_, a₁, w₁, hq, .of_steps (.one h0 stepR_scope) harr⟩
  | outgrown => exact ⟨_, a₁, w₁, hq, .of_steps (.one h0 stepR_scope) harr⟩
end
section
variable {P : Program} {st : LS} {Q : Exit → LS → Prop} {t : List It} {c : Code}
/-- A scope through which the run goes without a jump. -/
theorem LW.scope (hg : ∀ i s, ¬ after P t Q (.goto i) s) (h : LW P c st (after P t Q)) : LW P (.scope c) st (after P t Q) := fun w0 ph a w r Q' kk => by
  refine wpIn_scope (h w0 ph a w r (Exit.noGoto Q') fun e ph' st' a' w' hle r' q => ?_)
  cases e with
  | goto i => exact (hg i st' q).elim
  | normal => exact kk _ ph' st' a' w' hle r' q
  | exit i => exact kk _ ph' st' a' w' hle r' q
  | ret => exact kk _ ph' st' a' w' hle r' q
  | panic c => exact kk _ ph' st' a' w' hle r' q
  | outgrown => exact kk _ ph' st' a' w' hle r' q
theorem LW.label {i : Nat} (h : Q .normal st) : LW P (.label i) st Q := fun w0 ph a w r Q' kk => wpIn_label (kk _ ph st a w (PH.le.refl _) r h)
theorem no_goto {rs : Array ResultVar} {R : List Atom} {post : LV → List Atom → Prop} (i : Nat) (s : LS) : ¬ after P [] (Ends P rs R post) (.goto i) s := fun h => by
  rcases h.1 with h | h <;> cases h
end
theorem LCalls.weak {P : Program} {f : FuncId} {args : List LV} {H : List Atom} {post post' : LV → List Atom → Prop} (h : LCalls P f args H post) (hp : ∀ r H', post r H' → ∃ r' H'', Is r r' ∧ HSub H' H'' ∧ post' r' H'') : LCalls P f args H post' := fun R w0 ph w vs hi hr => by
  refine (h R w0 ph w vs hi hr).mono ?_
  rintro e w' ⟨v, ph', r, H', rfl, hle, hi', hx, hq⟩
  obtain ⟨r', H'', h1, h2, h3⟩ := hp r H' hq
  have hs : HSub (H' ++ R) (H'' ++ R) := fun ph w F hsep => by
    obtain ⟨F1, F2, g1, g2, g3, g4⟩ := Sep.split hsep
    obtain ⟨G, k1, k2⟩ := h2 ph w F1 g1
    exact ⟨_, Sep.app k1 g2 (fun b o hb => g4 b o (k2 b o hb)), fun b o hb => (g3 b o).2 (hb.imp (k2 b o) id)⟩
  exact ⟨v, ph', r', H'', rfl, hle, hs.app hi', h1 _ _ hx, h3⟩
end Go.L
namespace Go.L
open Go.RowKit
variable {P : Program}
/-- A function, entered as0 a deferred call. -/
def LDef (P : Program) (f : FuncId) (args : List LV) (H H2 : List Atom) : Prop :=
  ∀ (R : List Atom) (w0 : Base) ph w (vs : Array Value) (u : FrameMode), Inv w0 ph w (H ++ R) → Reps ph vs args →
    CallsDIn Fence.wide 0 P f vs u w fun e u' w' => u' = u ∧ ∃ v ph', e = .returned v ∧ PH.le ph ph' ∧ Inv w0 ph' w' (H2 ++ R)
theorem LDef.of {f : FuncId} {fn : Func} {c : Code} {args : List LV} {H H2 : List Atom} {n : Nat} {rs : Array ResultVar} (hf : P.funcs[f]? = some fn) (hb : fn.body = some c) (hn : fn.ntmps = n) (hrs : fn.results = rs) (hl : Nat.ble args.length n = true)
    (h : ∀ R, LW P c ⟨⟨n, [], true⟩, envOf 0 args, H ++ R⟩ (fun e s => (e = .normal ∨ e = .ret) ∧ s.n.df = [] ∧ ∃ r, Res P rs s r ∧ HSub s.heap (H2 ++ R))) : LDef P f args H H2 := fun R w0 ph w vs u hi hr => by
  have hl' : vs.size ≤ n := by rw [hr.1]; simpa using hl
  refine callsDIn_of_wp (R := fun e w' => ∃ v ph', e = .returned v ∧ PH.le ph ph' ∧ Inv w0 ph' w' (H2 ++ R)) hf hb trivial (h R ⟨w0.w, none⟩ ph _ w ⟨hi.ro none, ⟨rfl, fun _ => rfl⟩, by simp [hn]; omega, fun d => ?_⟩ _ fun e ph' st' a' w' hle r' q => ?_)
  · rw [get_envOf, if_pos (Nat.zero_le _), Nat.sub_zero]
    by_cases hd : d < vs.size
    · have hd' : d < args.length := hr.1 ▸ hd
      have h1 : ((vs ++ Array.replicate (fn.ntmps - vs.size) undef).getD d undef) = vs[d] := by
        simp [Array.getElem?_append, hd]
      rw [h1, List.getElem?_eq_getElem hd', Option.getD_some]
      exact hr.2 d _ _ (Array.getElem?_eq_getElem hd) (List.getElem?_eq_getElem hd')
    · have : args[d]? = none := by rw [List.getElem?_eq_none_iff, ← hr.1]; omega
      rw [this]
      exact .any _
  · obtain ⟨he, hdf, rr, hres, hsub⟩ := q
    obtain ⟨v, hrun, _⟩ := hres _ ph' a' w' fn hrs r'
    have hd : a'.defers = [] := by rw [r'.defers.1, hdf]
    have hI : Inv w0 ph' w' (H2 ++ R) := (hsub.app r'.inv).ro'
    rcases he with rfl | rfl <;> exact ⟨hd, v, hrun, v, ph', rfl, hle, hI⟩
/-- A function that leaves with one deferred closure. -/
theorem Leaves.call {rs : Array ResultVar} {R R2 H H2 H' : List Atom} {post : LV → List Atom → Prop} {s : LS} {r : LV} {f : FuncId} {fn' : Func} {v0 : Value} (hd : s.n.df = [⟨.fn (.func f) #[v0], #[]⟩]) (hf : P.funcs[f]? = some fn') (hname : (fn'.name == "runtime.NumGoroutine") = false) (hb : fn'.body.isSome = true)
    (hc : LDef P f [.raw v0] H H2) (hs : HSub s.heap (H ++ R2)) (hr : Res P rs ⟨s.n, s.env, H2 ++ R2⟩ r) (hh : HSub (H2 ++ R2) (H' ++ R)) (hp : post r H') : Leaves P rs R post s := fun w0 ph a w fn hfn rl => by
  rw [rl.defers.1, hd]
  have hcall := hc R2 w0 ph w #[v0] .returning (hs.app rl.inv) ⟨rfl, fun i c x h1 h2 => by
    match i with
    | 0 => simp at h1 h2; subst h1; subst h2; exact .raw _
    | i + 1 => simp at h1⟩
  refine ⟨by simp, .inr ⟨(fun h => by cases h), .func f, #[v0], f, #[v0], rfl, ?_, fun _ _ => trivial, hcall.mono fun e u' w' h => ?_⟩⟩
  · have := enters (P := P) hf hname hb #[v0] w
    simp [invoke, this]
  · obtain ⟨rfl, v, ph', rfl, hle, hi⟩ := h
    obtain ⟨x, hrun, hrep⟩ := hr w0 ph' a w' fn hfn ⟨hi, rl.defers, rl.size, rl.tmps.mono hle⟩
    exact ⟨x, hrun, x, ph', r, H', rfl, hle, hh.app hi, hrep, hp⟩
end Go.L
namespace Go.L
open Go.RowKit
section
variable {P : Program} {st : LS} {env : List (Nat × LV)} {H : List Atom} {K : LS → Prop} {ty : TypeId} {pos : String} {af : Array Edge} {g : Option (Nat × Bool)}
theorem Inv.putCells {w0 : Base} {ph : PH} {w : World} {b : Nat} {t : TypeId} {xs ys : List LV} (hinv : Inv w0 ph w (.cells b t xs :: H)) {news : List Value} (hc : CReps ph news.toArray ys) {off : Nat} (hlen : off + ys.length ≤ xs.length) :
    Inv w0 ph (w.setCells b off news) (.cells b t (putAt xs off ys) :: H) ∧ (∀ j, j < ys.length → (w.cell? ⟨b, off + j, none⟩).isSome = true) ∧ ∀ j, j < ys.length → w.frozen? ⟨b, off + j, none⟩ = false := by
  obtain ⟨F, hF, cs, hh, ⟨hl, hr⟩, ho⟩ := hinv.atom
  obtain ⟨⟨hn, hcr⟩, hco⟩ := hc
  simp only [List.size_toArray] at hn
  obtain ⟨cs', hh', hsz', hget⟩ := heap_setCells news off w cs hh (by omega)
  refine ⟨hinv.turn (a' := .cells b t (putAt xs off ys)) (PH.le.refl _) (fun G hG hn' => ⟨(chg_setCells _ w).mono (fun b' o' hb => (hG.1 b' o').2 hb), G, ⟨hG.1, cs', hh', ⟨by rw [putAt_length _ _ _ (by omega)]; omega, fun i c z hi hz => ?_⟩, fun i c hi => ?_⟩, fun b' o' hb => .inl hb, fun p u hp => .inl hp⟩), fun j hj => ?_, fun j hj => ?_⟩
  · rw [hget] at hi
    rw [putAt_get _ _ _ (by omega)] at hz
    by_cases hin : off ≤ i ∧ i < off + news.length
    · rw [if_pos hin] at hi
      rw [if_pos (by omega)] at hz
      exact hcr (i - off) c z (by simpa using hi) hz
    · rw [if_neg hin] at hi
      rw [if_neg (by omega)] at hz
      exact hr i c z hi hz
  · rw [hget] at hi
    by_cases hin : off ≤ i ∧ i < off + news.length
    · rw [if_pos hin] at hi
      exact hco (i - off) c (by simpa using hi)
    · rw [if_neg hin] at hi
      exact ho i c hi
  · rw [cell_of_row w b (off + j) cs t (0, 0) hh, Array.getElem?_eq_getElem (by omega)]; rfl
  · simp [World.frozen?, hh]
/-- append(s[:i], s[j:]...) within the room of an owned row. -/
theorem LO.appendIn {s x : Operand} {t tx e te : TypeId} {z : Value} {size by_ : Nat} {b off n c off2 n2 c2 : Nat} {xs : List LV} {ys : List (List LV)} {d : Tmp} (k : Nat) (hk : st.heap[k]? = some (.cells b te xs)) (hd : Nat.blt d st.n.k = true) (ht : P.underlying t = some (.slice e)) (htx : P.underlying tx = some (.slice e)) (hel : El P e z size by_)
    (hs : Is (ev st.env s) (.raw (.slice (some ⟨b, off, none⟩) n c))) (hx : Is (ev st.env x) (.raw (.slice (some ⟨b, off2, none⟩) n2 c2))) (hys : ∀ e ∈ ys, e.length = size) (hn : ys.length = n2) (hfit2 : off2 + n2 * size ≤ xs.length) (he : ys.flatten = (xs.drop off2).take (n2 * size)) (hnc : n2 ≤ c2) (hroom : n + n2 ≤ c) (hfit : off + n * size + n2 * size ≤ xs.length)
    (h : K ⟨st.n, (d, .raw (.slice (some ⟨b, off, none⟩) (n + n2) c)) :: st.env, .cells b te (putAt xs (off + n * size) ys.flatten) :: st.heap.eraseIdx k⟩) :
    LO P ⟨some d, .call { callee := .builtin .append, args := #[s, x], argTypes := #[t, tx] }, ty, pos, af, g⟩ st K := .of_run hd fun w0 ph a w rl => by
  have h1 := (hs _ _ (rl.tmps.eval s)).rawE
  obtain ⟨⟨i, hi, hz, hsz, hby⟩, hzs, hs0⟩ := hel
  have hsrc0 : SrcG P [.cells b te xs] tx size (.raw (.slice (some ⟨b, off2, none⟩) n2 c2)) ys := SrcG.cells htx hs0 hys hn hfit2 he hnc
  obtain ⟨news, hsrc, hnc2⟩ := hsrc0.2 w0 ph w st.heap (a.eval x) (fun a ha => by rw [List.mem_singleton.1 ha]; exact List.mem_of_getElem? hk) rl.inv (hx _ _ (rl.tmps.eval x))
  have hnl : news.length = ys.length * size := hsrc.newsLen
  have hfl : ys.flatten.length = n2 * size := by rw [he, List.length_take, List.length_drop]; omega
  have hinv := rl.inv.front k
  unfold L.front at hinv
  rw [hk] at hinv
  obtain ⟨hi2, hthere, hfro⟩ := hinv.putCells hnc2 (off := off + n * size) (by omega)
  have hr := run_append_room_src (P := P) w t tx ty e i ht hi b off n c (a.eval x) ys.length news (hsz ▸ hsrc) (by omega) (fun j hj => by rw [hsz]; exact hthere j (by rw [hfl, ← hn]; omega)) (fun j hj => by rw [hsz]; exact hfro j (by rw [hfl, ← hn]; omega))
  rw [hsz, hn] at hr
  exact ⟨_, _, _, ph, _, by simp [execOp, resolve, invoke, builtin, h1, hr], PH.le.refl _, hi2, .raw _, h⟩
/-- clear(s) of an owned row of single cells. -/
theorem LO.clear {s : Operand} {t e te : TypeId} {z : Value} {b off n c : Nat} {xs : List LV} (k : Nat) (hk : st.heap[k]? = some (.cells b te xs)) (ht : P.underlying t = some (.slice e)) (hv : ∀ w, (zeroValue e).run P w = .ok z w) (hz : z.cells = #[z]) (h1z : z.oneCell' = true)
    (hs : Is (ev st.env s) (.raw (.slice (some ⟨b, off, none⟩) n c))) (hn : 0 < n) (hfit : off + n ≤ xs.length)
    (h : K ⟨st.n, st.env, .cells b te (putAt xs off (List.replicate n (.raw z))) :: st.heap.eraseIdx k⟩) :
    LO P ⟨none, .call { callee := .builtin .clear, args := #[s], argTypes := #[t] }, ty, pos, af, g⟩ st K := fun w0 ph a w rl N Q kk => by
  have h1 := (hs _ _ (rl.tmps.eval s)).rawE
  have hinv := rl.inv.front k
  unfold L.front at hinv
  rw [hk] at hinv
  have hc : CReps ph (List.replicate n z).toArray (List.replicate n (.raw z)) := ⟨⟨by simp, fun i c x h2 h3 => by
    simp only [List.getElem?_toArray, List.getElem?_replicate] at h2 h3
    split at h2
    · rw [if_pos (by assumption)] at h3; injection h2 with h2; injection h3 with h3; subst h2; subst h3; exact .raw _
    · cases h2⟩, fun i c h2 => by
    simp only [List.getElem?_toArray, List.getElem?_replicate] at h2
    split at h2
    · injection h2 with h2; subst h2; exact h1z
    · cases h2⟩
  obtain ⟨hi2, hthere, hfro⟩ := hinv.putCells hc (off := off) (by simpa using hfit)
  have hr := Go.Lib.run_clear_slice (P := P) w t e ty z ht hv hz h1z b off n c hn (by simpa using hthere) (by simpa using hfro)
  unfold owp
  have hrun : (execOp a.eval ⟨none, .call { callee := .builtin .clear, args := #[s], argTypes := #[t] }, ty, pos, af, g⟩).run P w = .ok (.value (.tuple #[])) (w.setCells b off (List.replicate n z)) := by
    simp [execOp, resolve, invoke, builtin, h1, hr]
  rw [hrun]
  exact kk ph _ _ _ (PH.le.refl _) (rl.put0 (PH.le.refl _) hi2 _) h
/-- A slice asked whether it is nil: if it is, it has no elements. -/
theorem LO.nilSl {x y : Operand} {t t' e : TypeId} {size : Nat} {es : List (List LV)} {k : Cap} {d : Tmp} (hd : Nat.blt d st.n.k = true) (ht : P.underlying t = some (.slice e)) (hx : Is (ev st.env x) (.sl size es k)) (hy : Is (ev st.env y) (.raw (.slice none 0 0)))
    (h : ∀ b : Bool, (b = true → es = []) → K ⟨st.n, (d, .raw (.bool b)) :: st.env, st.heap⟩) : LO P ⟨some d, .binOp .eql t x y t', ty, pos, af, g⟩ st K := .of_run hd fun w0 ph a w rl => by
  have h1 := hx _ _ (rl.tmps.eval x)
  have h2 := (hy _ _ (rl.tmps.eval y)).rawE
  generalize hu : a.eval x = u at h1
  cases h1 with
  | sl _ _ _ A n c ad u hA hn hnc hs hcap hp hr =>
    have he : (Op.equal t (.slice A n c) (.slice none 0 0)).run P w = .ok A.isNone w := by
      rw [show Op.equal t (.slice A n c) (.slice none 0 0) = Op.equalIn (9999 + 1) t (.slice A n c) (.slice none 0 0) from rfl, Op.equalIn]
      rw [Sem.run_bind, run_underlying ht, Result.andThen_ok]
      cases A <;> rfl
    have hg : (eqGuard .eql t x y (.slice A n c) (.slice none 0 0)).run P w = .ok () w := by unfold eqGuard; simp
    have hb : binOp .eql t (.slice A n c) (.slice none 0 0) = (do pure (.bool ((← Op.equal t (.slice A n c) (.slice none 0 0))))) := by rfl
    refine ⟨_, .bool A.isNone, w, ph, _, ?_, PH.le.refl _, rl.inv, .raw _, h A.isNone fun hn' => ?_⟩
    · simp only [execOp, hu, h2, Sem.run_bind, hg, Result.andThen_ok, hb, he, Sem.run_pure] <;> rfl
    · cases A with
      | some q => cases hn'
      | none =>
        refine List.eq_nil_of_length_eq_zero (Nat.eq_zero_of_not_pos fun h0 => ?_)
        have := hA h0
        cases this
/-- An owned row, sliced. -/
theorem LU.sliceR {x : Operand} {d : Option Tmp} {t e : TypeId} {size n c : Nat} {A : Option Addr} {lo hi : Option Operand} {l h : Option Int} (hs : ∀ w, (sizeOf e).run P w = .ok size w) (ht : P.underlying t = some (.slice e)) (hx : Is (ev env x) (.raw (.slice A n c))) (hl : optInt env lo l) (hh : optInt env hi h)
    (h0 : 0 ≤ l.getD 0) (h1 : l.getD 0 ≤ h.getD n) (h2 : h.getD n ≤ c) (hnc : n ≤ c) :
    LU P env H ⟨d, .slice t x lo hi none, ty, pos, af, g⟩ (.raw (sliced A (l.getD 0).toNat (h.getD n).toNat c size)) := .of_run fun ph a hc w0 w hinv => by
  have hu := (hx _ _ (hc x (by simp [Op.operands]))).rawE
  have ht' : P.underlying t = some (.slice (P.elem t)) := by rw [elem_of ht]; exact ht
  have he : P.elem t = e := elem_of ht
  refine ⟨_, ?_, .raw _⟩
  cases lo <;> cases l <;> simp only [optInt] at hl <;> cases hi <;> cases h <;> simp only [optInt] at hh
  · simp [execOp, hu, run_sliceAt_slice w t _ _ _ _ ht', run_slice_all w t A n c ht', he, hs]
  · rename_i y i
    obtain ⟨k1, hk1⟩ := hh
    have e2 := (hk1 _ _ (hc y (by simp [Op.operands]))).rawE
    simp only [Option.getD_none, Option.getD_some] at h0 h1 h2
    simp [execOp, hu, e2, run_sliceAt_slice w t _ _ _ _ ht', run_slice_h w t A n c ht' k1 i h1 (by omega), he, hs]
  · rename_i y i
    obtain ⟨k1, hk1⟩ := hl
    have e2 := (hk1 _ _ (hc y (by simp [Op.operands]))).rawE
    simp only [Option.getD_none, Option.getD_some] at h0 h1 h2
    simp [execOp, hu, e2, run_sliceAt_slice w t _ _ _ _ ht', run_slice_l w t A n c ht' k1 i h0 (by omega), he, hs]
  · rename_i y i z j
    obtain ⟨k1, hk1⟩ := hl
    obtain ⟨k2, hk2⟩ := hh
    have e2 := (hk1 _ _ (hc y (by simp [Op.operands]))).rawE
    have e3 := (hk2 _ _ (hc z (by simp [Op.operands]))).rawE
    simp only [Option.getD_some] at h0 h1 h2
    simp [execOp, hu, e2, e3, run_sliceAt_slice w t _ _ _ _ ht', run_slice_lh w t A n c ht' k1 k2 i j h0 h1 (by omega), he, hs]
/-- s[i:j:k] of an owned row. -/
theorem LU.sliceR3 {x y z u : Operand} {d : Option Tmp} {t e : TypeId} {size n c : Nat} {A : Option Addr} {k1 k2 k3 : IntKind} {i j m : Int} (hs : ∀ w, (sizeOf e).run P w = .ok size w) (ht : P.underlying t = some (.slice e)) (hx : Is (ev env x) (.raw (.slice A n c))) (hy : Is (ev env y) (.raw (.int k1 i))) (hz : Is (ev env z) (.raw (.int k2 j))) (hu : Is (ev env u) (.raw (.int k3 m)))
    (h0 : 0 ≤ i) (h1 : i ≤ j) (h2 : j ≤ m) (h3 : m ≤ c) :
    LU P env H ⟨d, .slice t x (some y) (some z) (some u), ty, pos, af, g⟩ (.raw (sliced A i.toNat j.toNat m.toNat size)) := .of_run fun ph a hc w0 w hinv => by
  have e1 := (hx _ _ (hc x (by simp [Op.operands]))).rawE
  have e2 := (hy _ _ (hc y (by simp [Op.operands]))).rawE
  have e3 := (hz _ _ (hc z (by simp [Op.operands]))).rawE
  have e4 := (hu _ _ (hc u (by simp [Op.operands]))).rawE
  have ht' : P.underlying t = some (.slice (P.elem t)) := by rw [elem_of ht]; exact ht
  have he : P.elem t = e := elem_of ht
  refine ⟨_, ?_, .raw _⟩
  simp [execOp, e1, e2, e3, e4, run_sliceAt_slice w t _ _ _ _ ht', run_slice_lhm w t A n c ht' k1 k2 k3 i j m h0 h1 h2 (by omega), he, hs]
end
end Go.L
namespace Go.L
open Go.RowKit
theorem HSub.appR {H K : List Atom} (R : List Atom) (h : HSub K H) : HSub (K ++ R) (H ++ R) := fun ph w F s => by
  obtain ⟨F1, F2, h1, h2, hF, hd⟩ := s.split
  obtain ⟨G, g1, g2⟩ := h ph w F1 h1
  exact ⟨_, Sep.app g1 h2 (fun b o hg hf => hd b o (g2 b o hg) hf), fun b o hbo => (hF b o).2 (hbo.imp (g2 b o) id)⟩
theorem LCalls.need {P : Program} {f : FuncId} {args : List LV} {H K : List Atom} {post : LV → List Atom → Prop} (hs : HSub K H) (h : LCalls P f args H post) : LCalls P f args K post :=
  fun R w0 ph w vs i r => h R w0 ph w vs ((HSub.appR R hs).app i) r
theorem LCalls.frame {P : Program} {f : FuncId} {args : List LV} {H : List Atom} {post : LV → List Atom → Prop} (F : List Atom) (h : LCalls P f args H post) : LCalls P f args (H ++ F) (fun r H' => ∃ H0, H' = H0 ++ F ∧ post r H0) :=
  fun R w0 ph w vs i r => (h (F ++ R) w0 ph w vs (by rw [← List.append_assoc]; exact i) r).mono fun e w' ⟨v, ph', x, H', h1, h2, h3, h4, h5⟩ => ⟨v, ph', x, H' ++ F, h1, h2, by rw [List.append_assoc]; exact h3, h4, H', rfl, h5⟩
end Go.L
namespace Go.L
open Go.RowKit
variable {P : Program}
theorem arr_open {e : TypeId} {size : Nat} {Q : List LV → Prop} (hc : P.cellsOf e = size) (he : Opens P e Q) {H : Type} {enc : TypeId × Value → H} {w : World} {base : Nat} {spare : Nat → Bool} {held : Bool} {m : Nat} :
    ∀ (n : Nat) (cs : List Value), cs.length = n * size → (∀ i, i < n → ∃ y, DataW.trod enc P w base spare held m e ((cs.drop (i * size)).take size) = some y ∧ Weighs P e y.1) →
      ∃ es : List (List LV), CReps (PH.all w) cs.toArray es.flatten ∧ es.length = n ∧ ∀ c ∈ es, c.length = size ∧ Q c
  | 0, cs, hl, _ => by
    obtain rfl : cs = [] := List.eq_nil_of_length_eq_zero (by omega)
    exact ⟨[], ⟨⟨by simp, fun i c x h1 h2 => by simp at h2⟩, fun i c h1 => by simp at h1⟩, rfl, by simp⟩
  | n + 1, cs, hl, h => by
    rw [Nat.succ_mul] at hl
    obtain ⟨y, hy, hyw⟩ := h 0 (by omega)
    rw [Nat.zero_mul, List.drop_zero] at hy
    obtain ⟨ys, h3, h4⟩ := he H enc w base spare held m _ y hy hyw
    obtain ⟨es, h5, h6, h7⟩ := arr_open hc he n (cs.drop size) (by rw [List.length_drop]; omega) (fun i hi => by
      obtain ⟨z, hz, hzw⟩ := h (i + 1) (by omega)
      refine ⟨z, ?_, hzw⟩
      rwa [List.drop_drop, show size + i * size = (i + 1) * size by rw [Nat.succ_mul]; omega])
    have hlen : (cs.take size).length = size := by rw [List.length_take]; omega
    refine ⟨ys :: es, ?_, by simp [h6], fun c hc' => ?_⟩
    · have := creps_append h3 h5
      rwa [List.take_append_drop] at this
    · rcases List.mem_cons.1 hc' with rfl | hc'
      · have := h3.1.1
        simp only [List.size_toArray, hlen] at this
        exact ⟨this.symm, h4⟩
      · exact h7 c hc'
theorem Opens.array {t e : TypeId} {n size : Nat} {Q : List LV → Prop} (ht : P.underlying t = some (.array n e)) (hc : P.cellsOf e = size) (hs0 : 0 < size) (hm : P.cellsOf t = n * size) (he : Opens P e Q) : Opens P t (QArr n size Q) := fun H enc w base spare held fuel cs x hx hw => by
  obtain ⟨xs, m, _, rfl, hl, hxl, hi⟩ := DataW.trod_array ht hx
  obtain ⟨es, h1, h2, h3⟩ := arr_open hc he (H := H) (enc := enc) (w := w) (base := base) (spare := spare) (held := held) (m := m) n cs (by omega) (fun i hin => by
    have h1 := hi i hin
    have hlt : i < xs.length := by omega
    rw [List.getElem?_eq_getElem hlt, hc] at h1
    refine ⟨_, h1, fun k hk => hw k ?_⟩
    simp only [DataW.weights, ht]
    exact weightsAll_mem (List.mem_map_of_mem (List.getElem_mem hlt)) k hk)
  exact ⟨es.flatten, h1, es, rfl, h2, h3⟩
end Go.L
namespace Go.L
open Go.RowKit
def drawOkB (ops : Array Oper) (m : Nat) : Bool :=
  let B := Region.before ops
  let n := ops.size
  (List.range n).all fun i =>
    (direct ops i).all (fun j => Nat.blt j i) &&
    (List.range n).all (fun k => !(B.getD i 0).testBit k || (direct ops i).contains k || (direct ops i).any fun e => (B.getD e 0).testBit k) &&
    (Nat.blt i m || (List.range i).all fun k => (B.getD i 0).testBit k)
section
variable {P : Program} {ops : Array Oper} {K : LS → Prop}
structure DrawOkB (ops : Array Oper) (m : Nat) : Prop where
  less : ∀ i, i < ops.size → ∀ j ∈ direct ops i, j < i
  clo : ∀ i k, i < ops.size → k < ops.size → ((Region.before ops).getD i 0).testBit k = true → k ∈ direct ops i ∨ ∃ e ∈ direct ops i, ((Region.before ops).getD e 0).testBit k = true
  last : ∀ i k, i < ops.size → m ≤ i → k < i → ((Region.before ops).getD i 0).testBit k = true
theorem DrawOkB.of {m : Nat} (h : drawOkB ops m = true) : DrawOkB ops m := by
  unfold drawOkB at h
  simp only [List.all_eq_true, List.mem_range, Bool.and_eq_true] at h
  refine ⟨fun i hi j hj => ?_, fun i k hi hk hb => ?_, fun i k hi hm hk => ?_⟩
  · obtain ⟨⟨h1, _⟩, _⟩ := h i hi
    simpa [Nat.blt_eq] using h1 j hj
  · obtain ⟨⟨_, h1⟩, _⟩ := h i hi
    have := h1 k hk
    simp only [Bool.or_eq_true, hb, Bool.not_true, Bool.false_eq_true, false_or, List.contains_iff_mem, List.any_eq_true] at this
    exact this
  · obtain ⟨⟨_, _⟩, h1⟩ := h i hi
    rcases Bool.or_eq_true _ _ |>.mp h1 with h1 | h1
    · have : i < m := by simpa [Nat.blt_eq] using h1
      omega
    · exact List.all_eq_true.1 h1 k (List.mem_range.2 hk)
theorem clo_downB {m : Nat} (hok : DrawOkB ops m) {S : Array Bool} (hd : Down ops S) : ∀ i k, i < ops.size → k < ops.size → ((Region.before ops).getD i 0).testBit k = true → (∀ j ∈ direct ops i, S.getD j false = true) → S.getD k false = true := by
  intro i
  induction i using Nat.strongRecOn with
  | _ i ih =>
    intro k hi hk hb hs
    rcases hok.clo i k hi hk hb with h | ⟨e, he, hb'⟩
    · exact hs k h
    · have hlt := hok.less i hi e he
      exact ih e hlt k (by omega) hk hb' (hd e (hs e he))
theorem oany_tailB {m : Nat} {Q : Exit → Act → World → Prop} (hok : DrawOkB ops m) : ∀ (l : List Oper) (k : Nat) (fuel : Nat) (S : Array Bool) (a : Act) (w : World), m ≤ k → k + l.length = ops.size → (∀ j, j < l.length → ops[k + j]? = l[j]?) → S.size = ops.size → (∀ j, j < ops.size → (S.getD j true = true ↔ j < k)) → l.length ≤ fuel →
    olist P ops Q l a w → oany P .any ops Q fuel S a w
  | [], k, fuel, S, a, w, hm, hk, hl, hS, hs, hf, h => by
    refine oany_done ?_ h fuel
    cases hr : Region.ready .any ops S with
    | nil => rfl
    | cons i r =>
      have : i ∈ Region.ready .any ops S := by rw [hr]; simp
      obtain ⟨h1, h2, _⟩ := ready_iff.1 this
      have := (hs i h2).2 (by simp at hk; omega)
      rw [h1] at this
      cases this
  | o :: l, k, 0, S, a, w, hm, hk, hl, hS, hs, hf, h => by simp at hf
  | o :: l, k, fuel + 1, S, a, w, hm, hk, hl, hS, hs, hf, h => by
    simp only [List.length_cons] at hk hf
    have hks : k < ops.size := by omega
    have hkk : ops[k]? = some o := by have := hl 0 (by simp); simpa using this
    have hfalse : S.getD k true = false := by
      cases hb : S.getD k true with
      | false => rfl
      | true => have := (hs k hks).1 hb; omega
    have hset : ∀ j, j < ops.size → ((S.setIfInBounds k true).getD j true = true ↔ j < k + 1) := fun j hj => by
      rw [getD_set (by omega)]
      by_cases hjk : j = k
      · simp [hjk]
      · rw [if_neg hjk, hs j hj]
        omega
    have hgd : ∀ j, j < ops.size → S.getD j false = S.getD j true := fun j hj => by
      simp [show j < S.size by omega]
    refine ⟨fun hr => ?_, fun i hi => ?_⟩
    · have : k ∈ Region.ready .any ops S := ready_iff.2 ⟨hfalse, hks, fun j hj => by
        have := hok.less k hks j hj
        rw [hgd j (by omega)]
        exact (hs j (by omega)).2 this⟩
      rw [hr] at this
      cases this
    · obtain ⟨h1, h2, h3⟩ := ready_iff.1 hi
      have hik : i = k := by
        have hge : ¬ i < k := fun hlt => by
          have := (hs i h2).2 hlt
          rw [h1] at this
          cases this
        rcases Nat.lt_or_ge k i with hlt | hle
        · have hb := hok.last i k h2 (by omega) hlt
          have hdown : Down ops S := fun x hx j hj => by
            have hxs : x < ops.size := by
              rcases Nat.lt_or_ge x ops.size with h | h
              · exact h
              · rw [show S.getD x false = false by simp [show ¬ x < S.size by omega]] at hx
                cases hx
            have hlt2 := hok.less x hxs j hj
            rw [hgd j (by omega)]
            rw [hgd x hxs] at hx
            have := (hs x hxs).1 hx
            exact (hs j (by omega)).2 (by omega)
          have := clo_downB hok hdown i k h2 hks hb h3
          rw [hgd k hks, hfalse] at this
          cases this
        · omega
      subst hik
      have hrec := fun (a' : Act) (w' : World) (h' : olist P ops Q l a' w') => oany_tailB hok l (i + 1) fuel (S.setIfInBounds i true) a' w' (by omega) (by omega) (fun j hj => by
        have := hl (j + 1) (by simp; omega)
        rw [show i + 1 + j = i + (j + 1) by omega, this, List.getElem?_cons_succ]) (by simp [hS]) hset (by omega) h'
      unfold olist at h
      unfold oop
      simp only [hkk]
      split
      · rename_i hw
        rw [if_pos hw] at h
        exact owp_mono (fun a' w' h' => hrec a' w' h') h
      · rename_i hw
        rw [if_neg hw] at h
        exact hrec _ _ h
theorem LA.invB {m : Nat} (hok : DrawOkB ops m) (hm : m ≤ ops.size) {I : Array Bool → LS → Prop} (l2 : List Oper) (hl2 : m + l2.length = ops.size) (hget : ∀ j, j < l2.length → ops[m + j]? = l2[j]?)
    (step : ∀ S st i, I S st → S.size = ops.size → Down ops S → i < m → i ∈ Region.ready .any ops S → ∃ o, ops[i]? = some o ∧ LP P ops o st (fun s => I (S.setIfInBounds i true) s))
    (fin : ∀ S st, I S st → (∀ j, j < m → S.getD j true = true) → LL P ops l2 st K) :
    ∀ fuel S st, S.size = ops.size → Down ops S → (∀ i, m ≤ i → i < ops.size → S.getD i true = false) → left S (List.range ops.size) ≤ fuel → I S st → LA P ops fuel S st K
  | fuel, S, st, hs, hd, hz, hf, hI => by
    by_cases hall : ∀ j, j < m → S.getD j true = true
    · intro w0 ph a w r Q kk
      refine oany_tailB hok l2 m fuel S a w (Nat.le_refl _) hl2 hget hs (fun j hj => ⟨fun h => ?_, hall j⟩) ?_ (fin S st hI hall w0 ph a w r Q kk)
      · by_cases hjm : j < m
        · exact hjm
        · rw [hz j (by omega) hj] at h; cases h
      · have : ∀ (k : Nat) (l : List Nat), (∀ i ∈ l, S.getD i true = false) → l.length ≤ left S l := fun k l => by
          induction l with
          | nil => intro _; simp [left]
          | cons x l ih =>
            intro h
            have h1 := ih fun i hi => h i (by simp [hi])
            have h2 := h x (by simp)
            simp only [left, h2, List.length_cons]
            simp
            omega
        have hsplit : ∀ (a b : List Nat), left S (a ++ b) = left S a + left S b := fun a b => by
          induction a with
          | nil => simp [left]
          | cons x a ih => simp only [List.cons_append, left, ih]; omega
        have e : List.range ops.size = List.range m ++ (List.range l2.length).map (m + ·) := by rw [← hl2, List.range_add]
        rw [e, hsplit] at hf
        have h3 := this 0 ((List.range l2.length).map (m + ·)) fun i hi => by
          obtain ⟨q, hq, rfl⟩ := List.mem_map.1 hi
          exact hz _ (by omega) (by have := List.mem_range.1 hq; omega)
        simp only [List.length_map, List.length_range] at h3
        omega
    · cases hr : Region.ready .any ops S with
      | nil =>
        refine absurd (fun j hj => ?_) hall
        have hlt : ((List.range ops.size).all fun i => (direct ops i).all fun j => Nat.blt j i) = true := List.all_eq_true.2 fun i hi => List.all_eq_true.2 fun j hj => Nat.ble_eq_true_of_le (hok.less i (List.mem_range.1 hi) j hj)
        exact all_done hs hlt hr j
      | cons i rs =>
        have hmem : ∀ j ∈ i :: rs, j ∈ Region.ready .any ops S := fun j hj => by rw [hr]; exact hj
        have hlm : ∀ j ∈ Region.ready .any ops S, j < m := fun j hj => by
          obtain ⟨h1, h2, h3⟩ := ready_iff.1 hj
          by_cases hjm : j < m
          · exact hjm
          · refine absurd (fun k hk => ?_) hall
            exact getD_tf (clo_downB hok hd j k h2 (by omega) (hok.last j k h2 (by omega) (by omega)) h3)
        obtain ⟨h1, h2, _⟩ := ready_iff.1 (hmem i (by simp))
        have hpos := left_set h2 h1
        cases fuel with
        | zero => omega
        | succ n =>
          refine LA.step hr ?_
          have all : ∀ l : List Nat, (∀ j ∈ l, j ∈ Region.ready .any ops S) → LAs P ops n S st K l := by
            intro l
            induction l with
            | nil => intro _; exact .nil
            | cons j l ih =>
              intro hl
              have hj := hl j (by simp)
              obtain ⟨o, ho, hp⟩ := step S st j hI hs hd (hlm j hj) hj
              obtain ⟨g1, g2, g3⟩ := ready_iff.1 hj
              have hlt := left_set g2 g1
              have hjm := hlm j hj
              refine .cons ho rfl (fun w0 ph a w r N Q k => hp w0 ph a w r N Q fun ph' st' a' w' hle r' q => k ph' st' a' w' hle r' (LA.invB hok hm l2 hl2 hget step fin n _ st' (by simp [hs]) ?_ ?_ (by omega) q)) (ih fun q hq => hl q (by simp [hq]))
              · intro x hx y hy
                rw [getD_set (by omega)] at hx ⊢
                by_cases hyj : y = j
                · rw [if_pos hyj]
                · rw [if_neg hyj]
                  by_cases hxj : x = j
                  · subst hxj; exact g3 y hy
                  · rw [if_neg hxj] at hx; exact hd x hx y hy
              · intro x hx hxs
                rw [getD_set (by omega), if_neg (by omega)]
                exact hz x hx hxs
          exact all _ hmem
theorem LW.invB {id m : Nat} {n : NN} {env : List (Nat × LV)} {H : List Atom} {l : List Oper} {Q : Exit → LS → Prop} {γ : Type} (sl : List (Nat × Nat)) (val : γ → Nat → LV) (hp : γ → (Nat → Bool) → List Atom) (g0 : γ)
    (hmo : P.follows .mixedOrders = true) (hok : drawOkB l.toArray m = true) (hm : Nat.ble m l.length = true) (hsl : (sl.all fun p => Nat.blt p.1 m) = true)
    (init : HSub H (hp g0 fun j => (Array.replicate l.length false).getD j true))
    (each : ∀ i, i < m → ∀ f g, f i = false → (∀ j ∈ direct l.toArray i, f j = true) → (∀ j, j < m → f j = true → ∀ k ∈ direct l.toArray j, f k = true) → ∃ o, l.toArray[i]? = some o ∧ LP P l.toArray o ⟨n, envS sl (val g) f env, hp g f⟩ (fun s => ∃ g', Weaker s ⟨n, envS sl (val g') (upd f i) env, hp g' (upd f i)⟩))
    (fin : ∀ g f, (∀ j, j < m → f j = true) → LL P l.toArray (l.drop m) ⟨n, envS sl (val g) (fun _ => true) env, hp g f⟩ (fun s => Q .normal s)) (hnd : noDefer l = true := by kernel_rfl) : LW P (.region id l.toArray true) ⟨n, env, H⟩ Q := by
  have hm' : m ≤ l.length := Nat.le_of_ble_eq_true hm
  have hO := DrawOkB.of hok
  have hsz : l.toArray.size = l.length := by simp
  refine LW.all hmo (LA.invB hO (by omega) (I := fun S s => ∃ g, Weaker s ⟨n, envS sl (val g) (fun j => S.getD j true) env, hp g (fun j => S.getD j true)⟩) (l.drop m) (by simp; omega) (fun j hj => by simp) ?_ ?_ l.toArray.size _ _ (by simp) ?_ ?_ ?_ ?_) hnd
  · rintro S st i ⟨g, hw⟩ hs hd him hi
    obtain ⟨h1, h2, h3⟩ := ready_iff.1 hi
    obtain ⟨o, ho, hlp⟩ := each i him (fun j => S.getD j true) g h1 (fun j hj => getD_tf (h3 j hj)) (fun j hj hf k hk => getD_tf (hd j (getD_ft (by omega) hf) k hk))
    refine ⟨o, ho, hw.lp fun w0 ph a w r N Q' k => hlp w0 ph a w r N Q' fun ph' st' a' w' hle r' q => k ph' st' a' w' hle r' ?_⟩
    rw [getD_upd (by omega)]; exact q
  · rintro S st ⟨g, hw⟩ hall
    have e := envS_all (val := val g) (f := fun j => S.getD j true) (env := env) (sl := sl) fun p hp' => hall p.1 (Nat.le_of_ble_eq_true (List.all_eq_true.1 hsl p hp'))
    rw [e] at hw
    intro w0 ph a w r Q' kk
    exact fin g _ hall w0 ph a w (hw.rels r) Q' kk
  · intro i hi
    simp [Array.getD_eq_getD_getElem?, Array.getElem?_replicate] at hi
    split at hi <;> simp_all
  · intro i hi1 hi2
    rw [Array.getD_eq_getD_getElem?, Array.getElem?_replicate, if_pos hi2]; rfl
  · have : ∀ (S : Array Bool) (l : List Nat), left S l ≤ l.length := fun S l => by
      induction l with
      | nil => simp [left]
      | cons a l ih => simp only [left, List.length_cons]; split <;> omega
    have := this (Array.replicate l.toArray.size false) (List.range l.toArray.size)
    simpa using this
  · have hz : ∀ p ∈ sl, (Array.replicate l.toArray.size false).getD p.1 true = false := fun p hp' => by
      have := Nat.le_of_ble_eq_true (List.all_eq_true.1 hsl p hp')
      rw [Array.getD_eq_getD_getElem?, Array.getElem?_replicate, if_pos (by omega)]; rfl
    refine ⟨g0, rfl, envS_start (val g0) (fun j => (Array.replicate l.toArray.size false).getD j true) env sl hz, ?_⟩
    rw [hsz]
    exact init
end
end Go.L
namespace Go.L
open Go.RowKit
end Go.L
namespace Go.L
open Go.RowKit
section
variable {κ : Type} [DecidableEq κ]
def idxM : List (κ × LV) → κ → Option Nat
  | [], _ => none
  | p :: r, a => if p.1 = a then some 0 else (idxM r a).map (· + 1)
def lookM (l : List (κ × LV)) (a : κ) : Option LV := (idxM l a).bind fun i => (l[i]?).map (·.2)
def setM (l : List (κ × LV)) (a : κ) (v : LV) : List (κ × LV) := match idxM l a with
  | some i => l.set i (a, v)
  | none => l ++ [(a, v)]
def delM (l : List (κ × LV)) (a : κ) : List (κ × LV) := match idxM l a with
  | some i => l.eraseIdx i
  | none => l
theorem idxM_some : ∀ {l : List (κ × LV)} {a : κ} {i : Nat}, idxM l a = some i → ∃ v, l[i]? = some (a, v)
  | [], a, i, h => by simp [idxM] at h
  | (b, v) :: r, a, i, h => by
    rw [idxM] at h
    by_cases e : b = a
    · simp only [e, if_true, Option.some.injEq] at h
      subst h; subst e
      exact ⟨v, rfl⟩
    · simp only [e, if_false, Option.map_eq_some_iff] at h
      obtain ⟨j, hj, rfl⟩ := h
      exact idxM_some (l := r) hj
end
/-- A map's entries, told by keys. -/
abbrev mp {κ : Type} (key : κ → Value) (l : List (κ × LV)) : List (LV × LV) := l.map fun p => (.raw (key p.1), p.2)
/-- A type of keys: how they are found. -/
structure KeyOk (P : Program) (kt : TypeId) {κ : Type} [DecidableEq κ] (key : κ → Value) : Prop where
  check : ∀ (a : κ) (b : Bool) (w : World), (Instr.checkKey b 10000 kt (key a)).run P w = .ok () w
  find : ∀ (a : κ) (es : List MapEntry) (l : List (κ × LV)) (w : World), es.map (·.key) = l.map (fun p => key p.1) → (Instr.findKey kt (key a) es).run P w = .ok ((idxM l a).bind fun i => (es[i]?).map fun e => (i, e.val)) w
  stays : ∀ a : κ, Instr.sameBits 10000 (key a) (key a) = true
theorem findNow_ok {κ : Type} [DecidableEq κ] {key : κ → Value} {kind : TypeDesc} (hn : ∀ a b, Instr.sameNow kind (key a) (key b) = some (decide (b = a))) (a : κ) : ∀ (es : List MapEntry) (l : List (κ × LV)) (n : Nat), es.map (·.key) = l.map (fun p => key p.1) → Instr.findNow kind (key a) es n = some ((idxM l a).bind fun i => (es[i]?).map fun e => (n + i, e.val))
  | [], [], n, _ => by simp [Instr.findNow, idxM]
  | [], p :: l, n, h => by simp at h
  | e :: es, [], n, h => by simp at h
  | e :: es, p :: l, n, h => by
    simp only [List.map_cons, List.cons.injEq] at h
    rw [Instr.findNow, h.1, hn]
    by_cases c : p.1 = a
    · simp [idxM, c]
    · simp only [c, decide_false, idxM, if_false]
      rw [findNow_ok hn a es l (n + 1) h.2]
      cases idxM l a with
      | none => simp
      | some i => simp [show n + 1 + i = n + (i + 1) by omega]
theorem KeyOk.ofNow {P : Program} {kt : TypeId} {κ : Type} [DecidableEq κ] {key : κ → Value} {kind : TypeDesc} (hk : P.underlying kt = some kind) (hn : ∀ a b, Instr.sameNow kind (key a) (key b) = some (decide (b = a)))
    (hc : ∀ (a : κ) (b : Bool) (w : World), (Instr.checkKey b 10000 kt (key a)).run P w = .ok () w) (hs : ∀ a : κ, Instr.sameBits 10000 (key a) (key a) = true) : KeyOk P kt key := ⟨hc, fun a es l w h => by
  unfold Instr.findKey
  simp only [Sem.run_bind, run_underlying hk, Result.andThen_ok, findNow_ok hn a es l 0 h, Sem.run_pure]
  simp only [Nat.zero_add], hs⟩
theorem bytes_beq (a b : List UInt8) : ((⟨a.toArray⟩ : ByteArray) == ⟨b.toArray⟩) = decide (b = a) := by
  have h : ((⟨a.toArray⟩ : ByteArray) == ⟨b.toArray⟩) = (a.toArray == b.toArray) := rfl
  rw [h, Bool.eq_iff_iff]
  simp only [beq_iff_eq, decide_eq_true_eq]
  exact ⟨fun h => by simpa using h.symm, fun h => by rw [h]⟩
theorem KeyOk.string {P : Program} {kt : TypeId} (hk : P.underlying kt = some .string) : KeyOk P kt (fun s : List UInt8 => Value.string ⟨s.toArray⟩) :=
  KeyOk.ofNow hk (fun a b => by simp only [Instr.sameNow, bytes_beq]) (fun a b w => by
    rw [Instr.checkKey]
    simp [run_underlying hk]) (fun a => by simp [Instr.sameBits, bytes_beq])
theorem KeyOk.int {P : Program} {kt : TypeId} {k : IntKind} (hk : P.underlying kt = some (.int k)) : KeyOk P kt (fun n : Int => Value.int k n) :=
  KeyOk.ofNow hk (fun a b => by
    simp only [Instr.sameNow, if_true, Option.some.injEq]
    rw [Bool.eq_iff_iff]
    simp only [beq_iff_eq, decide_eq_true_eq]
    exact eq_comm) (fun a b w => by
    rw [Instr.checkKey]
    simp [run_underlying hk]) (fun a => by simp [Instr.sameBits])
section
variable {P : Program} {env : List (Nat × LV)} {H : List Atom} {d : Option Tmp} {ty : TypeId} {pos : String} {af : Array Edge} {g : Option (Nat × Bool)} {st : LS} {K : LS → Prop}
theorem run_makeMap {t : TypeId} (w : World) : (Instr.makeMap t none).run P w = .ok (.map (some w.heap.size)) (w.alloc (.map #[] 0)) := by
  simp [Instr.makeMap]
theorem LO.makeMap {t : TypeId} {d : Tmp} (hd : Nat.blt d st.n.k = true) (h : ∀ b, K ⟨st.n, (d, .raw (.map (some b))) :: st.env, .map b [] :: st.heap⟩) : LO P ⟨some d, .makeMap t none, ty, pos, af, g⟩ st K := .of_run hd fun w0 ph a w r => by
  refine ⟨.raw (.map (some w.heap.size)), _, w.alloc (.map #[] 0), ph, _, by simp [execOp, run_makeMap], PH.le.refl _, ?_, .raw _, h w.heap.size⟩
  exact r.inv.new (G := fun b _ => b = w.heap.size) (Below.alloc (Below.refl _ _) (Nat.le_refl _) _) ⟨fun _ _ => Iff.rfl, #[], 0, heap_alloc_new w _, rfl, fun i m kv h => by simp at h, List.Pairwise.nil⟩ (fun b _ hb => by rw [hb]; exact Nat.le_refl _)
theorem LU.lenMap {x : Operand} {t kt et : TypeId} {m : Nat} {es : List (LV × LV)} (k : Nat) (hk : H[k]? = some (.map m es)) (ht : P.underlying t = some (.map kt et)) (hx : Is (ev env x) (.raw (.map (some m)))) :
    LU P env H ⟨d, .call { callee := .builtin .len, args := #[x], argTypes := #[t] }, ty, pos, af, g⟩ (.raw (.int .i64 es.length)) := .of_run fun ph a hl w0 w hinv => by
  have h1 := (hx _ _ (hl x (by simp [Op.operands, Call.operands]))).rawE
  obtain ⟨F, hF, ents, clock, hh, hsz, _⟩ := hinv.atom_at hk
  refine ⟨.int .i64 es.length, ?_, .raw _⟩
  simp [execOp, resolve, invoke, builtin, h1, Builtin.len_, run_underlying ht, MapKept.run_getObj_map hh, goInt, hsz]
theorem map_keys {κ : Type} {key : κ → Value} {ph : PH} {ents : Array MapEntry} {l : List (κ × LV)} {clock : Nat} (hsz : ents.size = (mp key l).length) (h : ∀ (i : Nat) (m : MapEntry) (kv : LV × LV), ents[i]? = some m → (mp key l)[i]? = some kv → Rep ph m.key kv.1 ∧ Rep ph m.val kv.2 ∧ m.born < clock) : ents.toList.map (·.key) = l.map (fun p => key p.1) := by
  apply List.ext_getElem?
  intro i
  simp only [List.getElem?_map, Array.getElem?_toList]
  by_cases hi : i < ents.size
  · have hi2 : i < l.length := by rw [hsz, List.length_map] at hi; exact hi
    have := (h i ents[i] (.raw (key l[i].1), l[i].2) (Array.getElem?_eq_getElem hi) (by rw [List.getElem?_map, List.getElem?_eq_getElem hi2]; rfl)).1.rawE
    rw [Array.getElem?_eq_getElem hi, List.getElem?_eq_getElem hi2]
    simp [this]
  · rw [Array.getElem?_eq_none (by omega), List.getElem?_eq_none (by rw [hsz, List.length_map] at hi; omega)]; rfl
theorem look_run {kt et t : TypeId} {κ : Type} [DecidableEq κ] {key : κ → Value} (Ko : KeyOk P kt key) {m : Nat} {l : List (κ × LV)} {F : FP} {ph : PH} {w : World} (hF : Atom.at ph w (.map m (mp key l)) F) (ht : P.underlying t = some (.map kt et)) {z : Value} (hz : (zeroValue et).run P w = .ok z w) (a : κ) (ok : Bool) :
    ∃ u, (Instr.lookup t (.map (some m)) (key a) ok).run P w = .ok (if ok then .tuple #[u, .bool (lookM l a).isSome] else u) w ∧ Rep ph u ((lookM l a).getD (.raw z)) := by
  obtain ⟨_, ents, clock, hh, hsz, hreps, _⟩ := hF
  have hkeys := map_keys hsz hreps
  have hf := Ko.find a ents.toList l w hkeys
  unfold lookM
  cases hi : idxM l a with
  | none =>
    rw [hi] at hf
    refine ⟨z, ?_, .raw _⟩
    simp only [Option.bind_none] at hf
    cases ok <;> simp [Instr.lookup, run_underlying ht, MapKept.run_getObj_map hh, Ko.check, hf, hz]
  | some i =>
    rw [hi] at hf
    obtain ⟨v, hv⟩ := idxM_some hi
    have hil := (List.getElem?_eq_some_iff.1 hv).1
    have hie : i < ents.size := by rw [hsz, List.length_map]; exact hil
    simp only [Option.bind_some, Array.getElem?_toList, Array.getElem?_eq_getElem hie, Option.map_some] at hf
    have hr := (hreps i ents[i] (.raw (key a), v) (Array.getElem?_eq_getElem hie) (by rw [List.getElem?_map, hv]; rfl)).2.1
    refine ⟨ents[i].val, ?_, by simpa [hv] using hr⟩
    cases ok <;> simp [Instr.lookup, run_underlying ht, MapKept.run_getObj_map hh, Ko.check, hf, hv]
theorem LU.lookup {x y : Operand} {t kt et : TypeId} {m : Nat} {κ : Type} [DecidableEq κ] {key : κ → Value} {l : List (κ × LV)} {z : Value} {a : κ} (k : Nat) (Ko : KeyOk P kt key) (hk : H[k]? = some (.map m (mp key l))) (ht : P.underlying t = some (.map kt et)) (hz : ∀ w, (zeroValue et).run P w = .ok z w) (hx : Is (ev env x) (.raw (.map (some m)))) (hy : Is (ev env y) (.raw (key a))) :
    LU P env H ⟨d, .lookup t x y false, ty, pos, af, g⟩ ((lookM l a).getD (.raw z)) := .of_run fun ph ac hl w0 w hinv => by
  have h1 := (hx _ _ (hl x (by simp [Op.operands]))).rawE
  have h2 := (hy _ _ (hl y (by simp [Op.operands]))).rawE
  obtain ⟨F, hF⟩ := hinv.atom_at hk
  obtain ⟨u, hu, hr⟩ := look_run Ko hF ht (hz w) a false
  exact ⟨u, by simp [execOp, h1, h2, hu], hr⟩
theorem LU.lookupOk {x y : Operand} {t kt et : TypeId} {m : Nat} {κ : Type} [DecidableEq κ] {key : κ → Value} {l : List (κ × LV)} {z : Value} {a : κ} (k : Nat) (Ko : KeyOk P kt key) (hk : H[k]? = some (.map m (mp key l))) (ht : P.underlying t = some (.map kt et)) (hz : ∀ w, (zeroValue et).run P w = .ok z w) (hx : Is (ev env x) (.raw (.map (some m)))) (hy : Is (ev env y) (.raw (key a))) :
    LU P env H ⟨d, .lookup t x y true, ty, pos, af, g⟩ (.tup [(lookM l a).getD (.raw z), .raw (.bool (lookM l a).isSome)]) := .of_run fun ph ac hl w0 w hinv => by
  have h1 := (hx _ _ (hl x (by simp [Op.operands]))).rawE
  have h2 := (hy _ _ (hl y (by simp [Op.operands]))).rawE
  obtain ⟨F, hF⟩ := hinv.atom_at hk
  obtain ⟨u, hu, hr⟩ := look_run Ko hF ht (hz w) a true
  refine ⟨_, by simp [execOp, h1, h2, hu]; rfl, .tup _ _ rfl fun i c x h1 h2 => ?_⟩
  match i with
  | 0 => simp at h1 h2; subst h1; subst h2; exact hr
  | 1 => simp at h1 h2; subst h1; subst h2; exact .raw _
  | k + 2 => simp at h1
theorem Chg.put {w : World} {m : Nat} {F : FP} (o : Obj) (hF : ∀ o, F m o) : Chg w (w.putObj m o) F :=
  Chg.blocks rfl rfl rfl (by simp) (fun b => b = m) (fun b hb o => by rw [hb]; exact hF o) (fun b _ hb => World.putObj_heap_other hb)
/-- m[a] = v -/
theorem LO.mapUpdate {x y z : Operand} {t kt et : TypeId} {m : Nat} {κ : Type} [DecidableEq κ] {key : κ → Value} {l : List (κ × LV)} {a : κ} {v : LV} (k : Nat) (Ko : KeyOk P kt key) (hk : st.heap[k]? = some (.map m (mp key l))) (ht : P.underlying t = some (.map kt et)) (hx : Is (ev st.env x) (.raw (.map (some m)))) (hy : Is (ev st.env y) (.raw (key a))) (hz : Is (ev st.env z) v)
    (h : K ⟨st.n, st.env, .map m (mp key (setM l a v)) :: st.heap.eraseIdx k⟩) : LO P ⟨none, .mapUpdate t x y z, ty, pos, af, g⟩ st K := .of_skip fun w0 ph ac w r => by
  have h1 := (hx _ _ (r.tmps.eval x)).rawE
  have h2 := (hy _ _ (r.tmps.eval y)).rawE
  have h3 := hz _ _ (r.tmps.eval z)
  have hinv := r.inv.front k
  unfold L.front at hinv
  rw [hk] at hinv
  obtain ⟨F, hF, ents, clock, hh, hsz, hreps, hpw⟩ := hinv.atom
  have hkeys := map_keys hsz hreps
  have hf := Ko.find a ents.toList l w hkeys
  have hlen : ents.size = l.length := by rw [hsz, List.length_map]
  have hlt := lt_of_some hh
  cases hi : idxM l a with
  | none =>
    rw [hi] at hf
    simp only [Option.bind_none] at hf
    have hset : setM l a v = l ++ [(a, v)] := by unfold setM; rw [hi]
    refine ⟨w.putObj m (.map (ents.push { key := key a, val := ac.eval z, born := clock }) (clock + 1)), ph, _, ?_, PH.le.refl _, hinv.turn (a' := .map m (mp key (setM l a v))) (PH.le.refl _) (fun G hG hn => ⟨Chg.put _ (fun o => (hG.1 m o).2 rfl), G, ⟨hG.1, _, _, World.putObj_heap_same hlt, ?_, fun i e kv he hkv => ?_, ?_⟩, fun b o hb => .inl hb, fun p u hp => .inl hp⟩), h⟩
    · simp [execOp, h1, h2, Instr.mapUpdate, run_underlying ht, MapKept.run_getObj_map hh, Ko.check, hf, MapKept.run_setObj_map _ hh, World.putObj]
    · rw [hset]; simp [hlen]
    · rw [hset] at hkv
      simp only [mp, List.map_append, List.map_cons, List.map_nil] at hkv
      rw [Array.getElem?_push] at he
      by_cases c : i = ents.size
      · rw [if_pos c] at he
        obtain rfl := Option.some.inj he
        rw [List.getElem?_append_right (by rw [List.length_map]; omega), List.length_map, show i - l.length = 0 by omega] at hkv
        obtain rfl := Option.some.inj hkv
        exact ⟨.raw _, h3, by show clock < clock + 1; omega⟩
      · rw [if_neg c] at he
        have hil := (Array.getElem?_eq_some_iff.1 he).1
        rw [List.getElem?_append_left (by rw [List.length_map]; omega)] at hkv
        have := hreps i e kv he hkv
        exact ⟨this.1, this.2.1, by omega⟩
    · rw [Array.toList_push, List.map_append, List.pairwise_append]
      refine ⟨hpw, by simp, fun x hx y hy => ?_⟩
      simp only [List.map_cons, List.map_nil, List.mem_singleton] at hy
      subst hy
      obtain ⟨e, he, rfl⟩ := List.mem_map.1 hx
      obtain ⟨i, hi2, rfl⟩ := List.getElem_of_mem he
      have hi3 : i < ents.size := by simpa using hi2
      exact (hreps i ents[i] ((mp key l)[i]'(by omega)) (Array.getElem?_eq_getElem hi3) (List.getElem?_eq_getElem _)).2.2
  | some i =>
    rw [hi] at hf
    obtain ⟨u, hu⟩ := idxM_some hi
    have hil := (List.getElem?_eq_some_iff.1 hu).1
    have hie : i < ents.size := by omega
    simp only [Option.bind_some, Array.getElem?_toList, Array.getElem?_eq_getElem hie, Option.map_some] at hf
    have hset : setM l a v = l.set i (a, v) := by unfold setM; rw [hi]
    have hki : ents[i].key = key a := (hreps i ents[i] (.raw (key a), u) (Array.getElem?_eq_getElem hie) (by rw [List.getElem?_map, hu]; rfl)).1.rawE
    refine ⟨w.putObj m (.map (ents.modify i fun e => { e with key := key a, val := ac.eval z }) clock), ph, _, ?_, PH.le.refl _, hinv.turn (a' := .map m (mp key (setM l a v))) (PH.le.refl _) (fun G hG hn => ⟨Chg.put _ (fun o => (hG.1 m o).2 rfl), G, ⟨hG.1, _, _, World.putObj_heap_same hlt, ?_, fun j e kv he hkv => ?_, ?_⟩, fun b o hb => .inl hb, fun p u hp => .inl hp⟩), h⟩
    · simp [execOp, h1, h2, Instr.mapUpdate, run_underlying ht, MapKept.run_getObj_map hh, Ko.check, hf, Instr.keyThatStays, hie, hki, Ko.stays, MapKept.run_setObj_map _ hh, World.putObj]
    · rw [hset]; simp [hlen]
    · rw [hset] at hkv
      rw [Array.getElem?_modify] at he
      simp only [mp, List.map_set] at hkv
      by_cases c : i = j
      · subst c
        rw [if_pos rfl, Array.getElem?_eq_getElem hie] at he
        obtain rfl := Option.some.inj he
        rw [List.getElem?_set_self (by rw [List.length_map]; exact hil)] at hkv
        obtain rfl := Option.some.inj hkv
        exact ⟨.raw _, h3, (hreps i ents[i] (.raw (key a), u) (Array.getElem?_eq_getElem hie) (by rw [List.getElem?_map, hu]; rfl)).2.2⟩
      · rw [if_neg c] at he
        rw [List.getElem?_set_ne c] at hkv
        exact hreps j e kv he hkv
    · have : (ents.modify i fun e => { e with key := key a, val := ac.eval z }).toList.map (·.born) = ents.toList.map (·.born) := by
        apply List.ext_getElem?
        intro j
        simp only [List.getElem?_map, Array.getElem?_toList, Array.getElem?_modify]
        by_cases c : i = j
        · subst c; simp [hie]
        · simp [c]
      rw [this]; exact hpw
/-- range over a map -/
theorem LO.rangeMap {x : Operand} {t kt et : TypeId} {m : Nat} {es : List (LV × LV)} {d : Tmp} (k : Nat) (hd : Nat.blt d st.n.k = true) (hk : st.heap[k]? = some (.map m es)) (ht : P.underlying t = some (.map kt et)) (hx : Is (ev st.env x) (.raw (.map (some m))))
    (h : ∀ b, K ⟨st.n, (d, .raw (.pointer (some ⟨b, 0, none⟩))) :: st.env, .mapr m b es [] :: st.heap.eraseIdx k⟩) : LO P ⟨some d, .range t x, ty, pos, af, g⟩ st K := .of_run hd fun w0 ph ac w r => by
  have h1 := (hx _ _ (r.tmps.eval x)).rawE
  have hinv := r.inv.front k
  unfold L.front at hinv
  rw [hk] at hinv
  obtain ⟨F, hF, ents, clock, hh, hsz, hreps, hpw⟩ := hinv.atom
  have hlt := lt_of_some hh
  have hb : Below w.heap.size w (w.alloc (.mapIter (some m) clock #[] clock)) := Below.alloc (Below.refl _ _) (Nat.le_refl _) _
  refine ⟨.raw (.pointer (some ⟨w.heap.size, 0, none⟩)), _, _, ph, _, by simp only [execOp, h1, Sem.run_bind, run_range_map w t kt et m ents clock ht hh]; rfl, PH.le.refl _, hinv.turn (a' := .mapr m w.heap.size es []) (PH.le.refl _) (fun G hG hn => ⟨Chg.below hb _, fun b o => b = m ∨ b = w.heap.size, ⟨fun b o => Iff.rfl, by omega, ents, clock, ?_, hsz, hreps, hpw, (by simp), #[], heap_alloc_new w _, rfl⟩, fun b o hb => ?_, fun p u hp => .inl hp⟩), .raw _, h _⟩
  · rw [heap_alloc_old w _ hlt]; exact hh
  · rcases hb with rfl | rfl
    · exact .inl ((hG.1 b o).2 rfl)
    · exact .inr (Nat.le_refl _)
theorem nodup_of_pairwise_lt {l : List Nat} (h : l.Pairwise (· < ·)) : l.Nodup := h.imp fun h => Nat.ne_of_lt h
/-- The next entry, whichever; or there is none left. -/
theorem LO.nextMap {x : Operand} {m it : Nat} {es : List (LV × LV)} {seen : List Nat} {d : Tmp} (k : Nat) (hd : Nat.blt d st.n.k = true) (hk : st.heap[k]? = some (.mapr m it es seen)) (hx : Is (ev st.env x) (.raw (.pointer (some ⟨it, 0, none⟩))))
    (h1 : ∀ i kv, es[i]? = some kv → i ∉ seen → K ⟨st.n, (d, .tup [.raw (.bool true), kv.1, kv.2]) :: st.env, .mapr m it es (seen ++ [i]) :: st.heap.eraseIdx k⟩)
    (h2 : (∀ i, i < es.length → i ∈ seen) → K ⟨st.n, (d, .tup [.raw (.bool false)]) :: st.env, .mapr m it es seen :: st.heap.eraseIdx k⟩) : LO P ⟨some d, .next x false, ty, pos, af, g⟩ st K := .of_run hd fun w0 ph ac w r => by
  have hx1 := (hx _ _ (r.tmps.eval x)).rawE
  have hinv := r.inv.front k
  unfold L.front at hinv
  rw [hk] at hinv
  obtain ⟨F, hF, hne, ents, clock, hh, hsz, hreps, hpw, hsl, arr, hit, harr⟩ := hinv.atom
  have hlt := lt_of_some hit
  have hltm := lt_of_some hh
  have hold : ∀ x ∈ ents.toList, x.born < clock := fun e he => by
    obtain ⟨i, hi2, rfl⟩ := List.getElem_of_mem he
    have hi3 : i < ents.size := by simpa using hi2
    exact (hreps i ents[i] (es[i]'(by omega)) (Array.getElem?_eq_getElem hi3) (List.getElem?_eq_getElem _)).2.2
  have hborn : ∀ i j (hi : i < ents.size) (hj : j < ents.size), ents[i].born = ents[j].born → i = j := fun i j hi hj e => by
    have hnd := nodup_of_pairwise_lt hpw
    have := (List.getElem_inj (h₀ := by simpa using hi) (h₁ := by simpa using hj) hnd).1 (by simpa using e)
    exact this
  have hseen : ∀ i (hi : i < ents.size), (ents[i].born ∈ arr.toList ↔ i ∈ seen) := fun i hi => by
    rw [harr, List.mem_map]
    constructor
    · rintro ⟨j, hj, e⟩
      have hj2 : j < ents.size := by have := hsl j hj; omega
      rw [Array.getElem?_eq_getElem hj2] at e
      simp only [Option.map_some, Option.getD_some] at e
      rw [hborn i j hi hj2 e.symm]; exact hj
    · intro hi2
      exact ⟨i, hi2, by rw [Array.getElem?_eq_getElem hi]; rfl⟩
  rcases run_next_at (P := P) w ty it m clock clock arr ents clock hit hh hold (Nat.le_refl _) with ⟨hz, hrun⟩ | ⟨e, he, w1, hal, hrun⟩
  · refine ⟨.tup [.raw (.bool false)], _, w, ph, _, by simp only [execOp, hx1, Sem.run_bind, hrun]; rfl, PH.le.refl _, hinv, .tup _ _ rfl fun i c x a b => ?_, h2 fun i hi => ?_⟩
    · match i with
      | 0 => simp at a b; subst a; subst b; exact .raw _
      | i + 1 => simp at a
    · have hi3 : i < ents.size := by omega
      refine (hseen i hi3).1 ?_
      have hemp : leftOf ents arr = #[] := Array.eq_empty_of_size_eq_zero hz
      unfold leftOf at hemp
      rw [Array.filter_eq_empty_iff] at hemp
      have := hemp ents[i] (by simp)
      simpa using this
  · have hmem : e ∈ ents.toList ∧ e.born ∉ arr.toList := by
      unfold leftOf at he
      simpa using he
    obtain ⟨i, hi2, rfl⟩ := List.getElem_of_mem hmem.1
    have hi3 : i < ents.size := by simpa using hi2
    have hil : i < es.length := by omega
    have hkv : es[i]? = some es[i] := List.getElem?_eq_getElem hil
    have hrep := hreps i ents[i] es[i] (Array.getElem?_eq_getElem hi3) hkv
    have hns : i ∉ seen := fun h => hmem.2 (by have := (hseen i hi3).2 h; simpa using this)
    have hw1 : w1.heap = w.heap ∧ w1.os = w.os ∧ w1.tape = w.tape ∧ w1.output = w.output := by rcases hal with rfl | rfl <;> exact ⟨rfl, rfl, rfl, rfl⟩
    refine ⟨.tup [.raw (.bool true), es[i].1, es[i].2], _, _, ph, _, by simp only [execOp, hx1, Sem.run_bind, hrun]; rfl, PH.le.refl _, hinv.turn (a' := .mapr m it es (seen ++ [i])) (PH.le.refl _) (fun G hG hn => ⟨?_, G, ⟨hG.1, hne, ents, clock, ?_, hsz, hreps, hpw, fun j hj => ?_, arr.push ents[i].born, ?_, ?_⟩, fun b o hb => .inl hb, fun p u hp => .inl hp⟩), .tup _ _ rfl fun j c x a b => ?_, h1 i es[i] hkv hns⟩
    · refine Chg.blocks hw1.2.1 hw1.2.2.1 hw1.2.2.2 (by simp [Go.ChangeMaps.setBlock, hw1.1]) (fun b => b = it) (fun b hb o => (hG.1 b o).2 (.inr hb)) (fun b _ hb => ?_)
      simp only [Go.ChangeMaps.setBlock, hw1.1]
      rw [Array.getElem?_setIfInBounds_ne (fun h => hb h.symm)]
    · simp only [Go.ChangeMaps.setBlock, hw1.1]
      rw [Array.getElem?_setIfInBounds_ne (fun h => hne h.symm)]; exact hh
    · rcases List.mem_append.1 hj with h | h
      · exact hsl j h
      · rw [List.mem_singleton.1 h]; exact hil
    · simp only [Go.ChangeMaps.setBlock, hw1.1]
      rw [Array.getElem?_setIfInBounds_self_of_lt hlt]
      rfl
    · rw [Array.toList_push, harr, List.map_append, List.map_cons, List.map_nil, Array.getElem?_eq_getElem hi3]; rfl
    · match j with
      | 0 => simp at a b; subst a; subst b; exact .raw _
      | 1 => simp at a b; subst a; subst b; exact hrep.1
      | 2 => simp at a b; subst a; subst b; exact hrep.2.1
      | j + 3 => simp at a
/-- The entry that the last step gave. -/
theorem LU.entryMap {x : Operand} {m it i : Nat} {es : List (LV × LV)} {seen : List Nat} {kv : LV × LV} (k : Nat) (hk : H[k]? = some (.mapr m it es (seen ++ [i]))) (hi : es[i]? = some kv) (hx : Is (ev env x) (.raw (.pointer (some ⟨it, 0, none⟩)))) : LU P env H ⟨d, .entry x, ty, pos, af, g⟩ (.tup [kv.1, kv.2]) := .of_run fun ph a hl w0 w hinv => by
  have h1 := (hx _ _ (hl x (by simp [Op.operands]))).rawE
  obtain ⟨F, hF, hne, ents, clock, hh, hsz, hreps, hpw, hsl, arr, hit, harr⟩ := hinv.atom_at hk
  have hil := (List.getElem?_eq_some_iff.1 hi).1
  have hie : i < ents.size := by omega
  have hrep := hreps i ents[i] kv (Array.getElem?_eq_getElem hie) hi
  have he : arr = (seen.map fun i => ((ents[i]?).map (·.born)).getD 0).toArray.push ents[i].born := by
    apply Array.toList_inj.1
    rw [harr, List.map_append, Array.toList_push, List.map_cons, List.map_nil, Array.getElem?_eq_getElem hie]; rfl
  rw [he] at hit
  have hrun := run_entry_at (P := P) w it m clock _ ents clock ents[i] hit hh (by simp) (nodup_of_pairwise_lt hpw)
  refine ⟨_, by simp only [execOp, h1, Sem.run_bind, hrun]; rfl, .tup _ _ rfl fun j c x a b => ?_⟩
  match j with
  | 0 => simp at a b; subst a; subst b; exact hrep.1
  | 1 => simp at a b; subst a; subst b; exact hrep.2.1
  | j + 2 => simp at a
end
/-- The loop is over: the map alone. -/
theorem HSub.ranged (m it : Nat) (es : List (LV × LV)) (seen : List Nat) (H : List Atom) : HSub (.mapr m it es seen :: H) (.map m es :: H) := HSub.of fun ph w F ⟨F1, F2, ⟨h1, hne, ents, clock, h2, h3, h4, h5, _⟩, hs, hF, hd⟩ =>
  ⟨fun b o => b = m ∨ F2 b o, ⟨fun b _ => b = m, F2, ⟨fun b o => Iff.rfl, ents, clock, h2, h3, h4, h5⟩, hs, fun b o => Iff.rfl, fun b o hb h => hd b o ((h1 b o).2 (.inl hb)) h⟩, fun b o hb => (hF b o).2 (hb.imp (fun h => (h1 b o).2 (.inl h)) id)⟩
/-- How many of n entries are not seen yet. -/
def unseen (n : Nat) (seen : List Nat) : Nat := ((List.range n).filter fun k => !seen.contains k).length
theorem unseen_lt {n i : Nat} {seen : List Nat} (hi : i < n) (hn : i ∉ seen) : unseen n (seen ++ [i]) < unseen n seen := by
  unfold unseen
  have e : (List.range n).filter (fun k => !(seen ++ [i]).contains k) = ((List.range n).filter fun k => !seen.contains k).filter fun k => k != i := by
    rw [List.filter_filter]
    congr 1
    funext k
    simp only [List.contains_eq_mem, List.mem_append, List.mem_singleton]
    by_cases h1 : k ∈ seen <;> by_cases h2 : k = i <;> simp [h1, h2]
  rw [e]
  refine List.length_filter_lt_length_iff_exists.2 ⟨i, ?_, by simp⟩
  rw [List.mem_filter]
  exact ⟨List.mem_range.2 hi, by simpa using hn⟩
end Go.L
namespace Go.L
open Go.RowKit
theorem reps_vals {ph : PH} {args : Array Value} {vs : List Value} (h : Reps ph args (raws vs)) : args = vs.toArray := by
  apply Array.ext_getElem?
  intro i
  by_cases hi : i < args.size
  · have hv : i < vs.length := by have := h.1; simp [raws] at this; omega
    have := (h.2 i args[i] (.raw vs[i]) (Array.getElem?_eq_getElem hi) (by simp [raws, hv])).rawE
    rw [Array.getElem?_eq_getElem hi, this]
    simp [hv]
  · have hv : ¬ i < vs.length := by have := h.1; simp [raws] at this; omega
    rw [Array.getElem?_eq_none (by omega), Array.getElem?_eq_none (by simpa using hv)]
/-- A contract of the shelf that changes nothing. -/
theorem LCalls.quiet {P : Program} {f : FuncId} {vs : List Value} {v : Value} (h : ∀ w : World, Calls P f vs.toArray w fun e w' => e = .returned v ∧ w' = w) : LCalls P f (raws vs) [] (fun r H' => r = .raw v ∧ H' = []) := fun R w0 ph w args hi hr => by
  rw [reps_vals hr]
  refine (h w).mono fun e w' ⟨he, hw⟩ => ⟨v, ph, .raw v, [], he, PH.le.refl _, by rw [hw]; exact hi, .raw _, rfl, rfl⟩
/-- A contract of the shelf that writes a row of an owned block. -/
theorem LCalls.row {P : Program} {f : FuncId} {α : Type} [Inhabited α] {enc : α → Value} {vs : List Value} {v : Value} {b off : Nat} {T : TypeId} {xs : List LV} {d d' : List α} (h1 : ∀ x, (enc x).oneCell' = true) (hx : (xs.drop off).take d.length = d.map fun a => LV.raw (enc a)) (hl : off + d.length ≤ xs.length) (hd : d'.length = d.length)
    (h : ∀ w : World, Sort.Holds enc w b off d.toArray → Calls P f vs.toArray w fun e w' => e = .returned v ∧ ∃ n, w' = (Sort.putRow enc w b off d'.toArray).drewN n) : LCalls P f (raws vs) [.cells b T xs] (fun r H' => r = .raw v ∧ H' = [.cells b T (putAt xs off (d'.map fun a => LV.raw (enc a)))]) := fun R w0 ph w args hi hr => by
  rw [reps_vals hr]
  obtain ⟨F, hF, cs, hh, hcr⟩ := hi.atom_at (k := 0) rfl
  have hsz := hcr.1.1
  have hget : ∀ j (hj : j < d.length), cs[off + j]? = some (enc d[j]) := fun j hj => by
    have hlt : off + j < cs.size := by omega
    have h2 : xs[off + j]? = some (.raw (enc d[j])) := by
      have := congrArg (fun z => z[j]?) hx
      simp only [List.getElem?_take, if_pos hj, List.getElem?_drop, List.getElem?_map, List.getElem?_eq_getElem hj, Option.map_some] at this
      exact this
    rw [Array.getElem?_eq_getElem hlt, (hcr.1.2 (off + j) cs[off + j] _ (Array.getElem?_eq_getElem hlt) h2).rawE]
  have hH : Sort.Holds enc w b off d.toArray := fun j hj => by
    have hj' : j < d.length := by simpa using hj
    rw [cell_of_row w b (off + j) cs T (0, 0) hh, hget j hj']
    refine ⟨by rw [getElem!_pos _ j hj]; simp, by simp [World.frozen?, hh]⟩
  refine (h w hH).mono fun e w' ⟨he, n, hw⟩ => ?_
  have hblk : ∀ k : Nat, (Sort.putRow enc w b off d'.toArray).heap[k]? = if k = b then some (.cells (Sort.putCells enc off d'.toArray cs) T (0, 0)) else w.heap[k]? := fun k => by
    by_cases hk : k = b
    · subst hk
      rw [if_pos rfl]
      unfold Sort.putRow Sort.mapBlock
      simp [Array.getElem?_modify, hh, Sort.onCells]
    · rw [if_neg hk]
      unfold Sort.putRow Sort.mapBlock
      simp only [Array.getElem?_modify]
      rw [if_neg (fun h : b = k => hk h.symm)]
  refine ⟨v, ph, .raw v, _, he, PH.le.refl _, ?_, .raw _, rfl, rfl⟩
  rw [hw]
  have hcell : ∀ i c, (Sort.putCells enc off d'.toArray cs)[i]? = some c → (off ≤ i ∧ i < off + d'.length ∧ ∃ a, d'[i - off]? = some a ∧ c = enc a) ∨ (¬ (off ≤ i ∧ i < off + d'.length) ∧ cs[i]? = some c) := fun i c hc => by
    unfold Sort.putCells at hc
    rw [Array.getElem?_mapIdx] at hc
    cases hci : cs[i]? with
    | none => rw [hci] at hc; cases hc
    | some u =>
      rw [hci] at hc
      simp only [Option.map_some, Option.some.injEq, List.size_toArray] at hc
      by_cases hr : off ≤ i ∧ i < off + d'.length
      · rw [if_pos hr] at hc
        have hj : i - off < d'.length := by omega
        exact .inl ⟨hr.1, hr.2, d'[i - off], List.getElem?_eq_getElem hj, by rw [← hc, getElem!_pos _ _ (by simpa using hj)]; simp⟩
      · rw [if_neg hr] at hc
        exact .inr ⟨hr, by rw [hc]⟩
  have hbl : ∀ k : Nat, ((Sort.putRow enc w b off d'.toArray).drewN n).heap[k]? = (Sort.putRow enc w b off d'.toArray).heap[k]? := fun k => rfl
  have hszh : (Sort.putRow enc w b off d'.toArray).heap.size = w.heap.size := by unfold Sort.putRow Sort.mapBlock; simp
  have hi' : Inv w0 ph w (.cells b T xs :: R) := hi
  show Inv w0 ph _ (_ :: R)
  refine hi'.turn (a' := .cells b T (putAt xs off (d'.map fun a => LV.raw (enc a)))) (PH.le.refl _) (fun G hG hn => ⟨Chg.blocks rfl rfl rfl (by show _ ≤ (Sort.putRow enc w b off d'.toArray).heap.size; omega) (fun k => k = b) (fun k hk o => (hG.1 k o).2 hk) (fun k _ hk => by rw [hbl, hblk, if_neg hk]), G, ⟨hG.1, Sort.putCells enc off d'.toArray cs, by rw [hbl, hblk, if_pos rfl], ⟨⟨by rw [putAt_length _ _ _ (by rw [List.length_map]; omega)]; unfold Sort.putCells; rw [Array.size_mapIdx]; exact hsz, fun i c x hc hx2 => ?_⟩, fun i c hc => ?_⟩⟩, fun k o hk => .inl hk, fun p u hp => .inl hp⟩)
  · rw [putAt_get _ _ _ (by rw [List.length_map]; omega), List.length_map] at hx2
    rcases hcell i c hc with ⟨a1, a2, a, ha, rfl⟩ | ⟨a1, a2⟩
    · rw [if_pos ⟨a1, a2⟩, List.getElem?_map, ha] at hx2
      obtain rfl := Option.some.inj hx2
      exact .raw _
    · rw [if_neg a1] at hx2
      exact hcr.1.2 i c x a2 hx2
  · rcases hcell i c hc with ⟨a1, a2, a, ha, rfl⟩ | ⟨a1, a2⟩
    · exact h1 a
    · exact hcr.2 i c a2
section
variable {P : Program} {env : List (Nat × LV)} {H : List Atom} {ty : TypeId} {pos : String} {af : Array Edge} {g : Option (Nat × Bool)}
end
end Go.L
namespace Go.L
open Go.RowKit
end Go.L
