/- Frames of contracts: what else is owned stays; what is needed may be owned in another order. Plain theorems over any program. -/
import Derived.Test.YtpimalihpnfdkaaLogIn
set_option linter.unusedVariables false
set_option linter.unusedSimpArgs false
namespace Go.L
open Go.RowKit
theorem HSub.appR {H K : List Atom} (R : List Atom) (h : HSub K H) : HSub (K ++ R) (H ++ R) := fun ph w F s => by
  obtain ⟨F1, F2, h1, h2, hF, hd⟩ := s.split
  obtain ⟨G, g1, g2⟩ := h ph w F1 h1
  exact ⟨_, Sep.app g1 h2 (fun b o hg hf => hd b o (g2 b o hg) hf), fun b o hbo => (hF b o).2 (hbo.imp (g2 b o) id)⟩
theorem LCalls.need {P : Program} {f : FuncId} {args : List LV} {H K : List Atom} {post : LV → List Atom → Prop} (hs : HSub K H) (h : LCalls P f args H post) : LCalls P f args K post :=
  fun R w0 ph w vs i r => h R w0 ph w vs ((HSub.appR R hs).app i) r
theorem LCalls.frame {P : Program} {f : FuncId} {args : List LV} {H : List Atom} {post : LV → List Atom → Prop} (F : List Atom) (h : LCalls P f args H post) : LCalls P f args (H ++ F) (fun r H' => ∃ H0, H' = H0 ++ F ∧ post r H0) :=
  fun R w0 ph w vs i r => (h (F ++ R) w0 ph w vs (by rw [← List.append_assoc]; exact i) r).mono fun e w' ⟨v, ph', x, H', h1, h2, h3, h4, h5⟩ => ⟨v, ph', x, H' ++ F, h1, h2, by rw [List.append_assoc]; exact h3, h4, H', rfl, h5⟩
theorem LCalls.around {P : Program} {f : FuncId} {args : List LV} {H : List Atom} {post : LV → List Atom → Prop} (F : List Atom) (h : LCalls P f args H post) : LCalls P f args (F ++ H) (fun r H' => ∃ H0, H' = F ++ H0 ∧ post r H0) :=
  fun R w0 ph w vs i r => (h (F ++ R) w0 ph w vs ((HSub.perm (perm_of fun x => (by simp only [List.count_append]; omega))).app i) r).mono fun e w' ⟨v, ph', x, H', h1, h2, h3, h4, h5⟩ => ⟨v, ph', x, F ++ H', h1, h2, (HSub.perm (perm_of fun x => (by simp only [List.count_append]; omega))).app h3, h4, H', rfl, h5⟩
theorem FnCalls.around {P : Program} {v : Value} {args : List LV} {H : List Atom} {post : LV → List Atom → Prop} (F : List Atom) (h : FnCalls P v args H post) : FnCalls P v args (F ++ H) (fun r H' => ∃ H0, H' = F ++ H0 ∧ post r H0) := by
  obtain ⟨f, fn, first, caps, h1, h2, h3, h4, h5⟩ := h
  exact ⟨f, fn, first, caps, h1, h2, h3, h4, h5.around F⟩
/-- Three results, the first two of which lie in cells. -/
theorem Res.cc3 {P : Program} {a a2 t : Tmp} {ta ta2 : TypeId} {st : LS} {b off b2 off2 : Nat} {tb tb2 : TypeId} {xs xs2 : List LV} {size size2 : Nat} {agg agg2 : Bool} {v r v2 r2 s : LV} (k k2 : Nat) (hk : st.heap[k]? = some (.cells b tb xs)) (hk2 : st.heap[k2]? = some (.cells b2 tb2 xs2)) (ha : get st.env a = .raw (.pointer (some ⟨b, off, Option.none⟩))) (ha2 : get st.env a2 = .raw (.pointer (some ⟨b2, off2, Option.none⟩))) (ht : Ty P ta size agg) (ht2 : Ty P ta2 size2 agg2) (hv : Part size agg xs off v) (hv2 : Part size2 agg2 xs2 off2 v2) (hr : Is v r) (hr2 : Is v2 r2) (hs : Is (get st.env t) s) : Res P #[.cell a ta, .cell a2 ta2, .tmp t] st (.tup [r, r2, s]) := fun w0 ph ac w fn h rl => by
  obtain ⟨F, hF, cs, hh, hc⟩ := rl.inv.atom_at hk
  obtain ⟨F2, hF2, cs2, hh2, hc2⟩ := rl.inv.atom_at hk2
  have h1 := rl.tmps a
  rw [ha] at h1
  have h12 := rl.tmps a2
  rw [ha2] at h12
  obtain ⟨z, hrun, hrep⟩ := creps_part (P := P) hc ht hv (w := w) (b := b) (fun i c hi => by rw [cell_of_row w b i cs tb (0, 0) hh]; exact hi)
  obtain ⟨z2, hrun2, hrep2⟩ := creps_part (P := P) hc2 ht2 hv2 (w := w) (b := b2) (fun i c hi => by rw [cell_of_row w b2 i cs2 tb2 (0, 0) hh2]; exact hi)
  refine ⟨.tuple #[z, z2, ac.tmps.getD t undef], by
    have h2 := h1.rawE
    have h22 := h12.rawE
    rw [Array.getD_eq_getD_getElem?] at h2 h22
    simp [results, h, h2, h22, asAddr, hrun, hrun2], .tup _ _ rfl fun i c x h2 h3 => ?_⟩
  match i with
  | 0 => simp at h2 h3; subst h2; subst h3; exact hr _ _ hrep
  | 1 => simp at h2 h3; subst h2; subst h3; exact hr2 _ _ hrep2
  | 2 => simp at h2 h3; subst h2; subst h3; exact hs _ _ (by simpa using rl.tmps t)
  | k + 3 => simp at h2
end Go.L
