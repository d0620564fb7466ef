/- Frames of contracts: what else is owned stays; what is needed may be owned in another order. Plain theorems over any program. -/
import Derived.Test.YtpimalihpnfdkaaLogIn
set_option linter.unusedVariables false
set_option linter.unusedSimpArgs false
namespace Go.L
open Go.RowKit
theorem HSub.appR {H K : List Atom} (R : List Atom) (h : HSub K H) : HSub (K ++ R) (H ++ R) := fun ph w F s => by
  obtain ⟨F1, F2, h1, h2, hF, hd⟩ := s.split
  obtain ⟨G, g1, g2⟩ := h ph w F1 h1
  exact ⟨_, Sep.app g1 h2 (fun b o hg hf => hd b o (g2 b o hg) hf), fun b o hbo => (hF b o).2 (hbo.imp (g2 b o) id)⟩
theorem LCalls.need {P : Program} {f : FuncId} {args : List LV} {H K : List Atom} {post : LV → List Atom → Prop} (hs : HSub K H) (h : LCalls P f args H post) : LCalls P f args K post :=
  fun R w0 ph w vs i r => h R w0 ph w vs ((HSub.appR R hs).app i) r
theorem LCalls.frame {P : Program} {f : FuncId} {args : List LV} {H : List Atom} {post : LV → List Atom → Prop} (F : List Atom) (h : LCalls P f args H post) : LCalls P f args (H ++ F) (fun r H' => ∃ H0, H' = H0 ++ F ∧ post r H0) :=
  fun R w0 ph w vs i r => (h (F ++ R) w0 ph w vs (by rw [← List.append_assoc]; exact i) r).mono fun e w' ⟨v, ph', x, H', h1, h2, h3, h4, h5⟩ => ⟨v, ph', x, H' ++ F, h1, h2, by rw [List.append_assoc]; exact h3, h4, H', rfl, h5⟩
theorem LCalls.around {P : Program} {f : FuncId} {args : List LV} {H : List Atom} {post : LV → List Atom → Prop} (F : List Atom) (h : LCalls P f args H post) : LCalls P f args (F ++ H) (fun r H' => ∃ H0, H' = F ++ H0 ∧ post r H0) :=
  fun R w0 ph w vs i r => (h (F ++ R) w0 ph w vs ((HSub.perm (perm_of fun x => (by simp only [List.count_append]; omega))).app i) r).mono fun e w' ⟨v, ph', x, H', h1, h2, h3, h4, h5⟩ => ⟨v, ph', x, F ++ H', h1, h2, (HSub.perm (perm_of fun x => (by simp only [List.count_append]; omega))).app h3, h4, H', rfl, h5⟩
theorem FnCalls.around {P : Program} {v : Value} {args : List LV} {H : List Atom} {post : LV → List Atom → Prop} (F : List Atom) (h : FnCalls P v args H post) : FnCalls P v args (F ++ H) (fun r H' => ∃ H0, H' = F ++ H0 ∧ post r H0) := by
  obtain ⟨f, fn, first, caps, h1, h2, h3, h4, h5⟩ := h
  exact ⟨f, fn, first, caps, h1, h2, h3, h4, h5.around F⟩
end Go.L
