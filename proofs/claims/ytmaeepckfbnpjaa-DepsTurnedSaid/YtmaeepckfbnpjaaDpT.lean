/- What is reached: by relation; the visit. -/
import Derived.Test.YtmaeepckfbnpjaaDpS
set_option linter.unusedVariables false
set_option linter.unusedSimpArgs false
namespace Go.Proofs.Ytmaeepckfbnpjaa
open Go.RowKit Go.L Go.Lib
attribute [local irreducible] LL LW LO
abbrev pt (g : Nat) : LV := .raw (.pointer (some ⟨g, 0, none⟩))
inductive Rch (f : Hs → List Hs) (h : Hs) : Hs → Prop
  | one {d : Hs} : d ∈ f h → Rch f h d
  | step {y d : Hs} : Rch f h y → d ∈ f y → Rch f h d
theorem Rch.closed {f : Hs → List Hs} {h : Hs} {S : Hs → Prop} (h0 : ∀ d ∈ f h, S d) (h1 : ∀ y, S y → ∀ d ∈ f y, S d) : ∀ {x : Hs}, Rch f h x → S x
  | _, .one hd => h0 _ hd
  | _, .step hy hd => h1 _ (Rch.closed h0 h1 hy) _ hd
theorem Rch.ahead {f : Hs → List Hs} {h y : Hs} (hy : y ∈ f h) : ∀ {x : Hs}, Rch f y x → Rch f h x
  | _, .one hd => .step (.one hy) hd
  | _, .step hx hd => .step (Rch.ahead hy hx) hd
theorem Rch.flip {f g : Hs → List Hs} (hfg : ∀ x y, y ∈ f x → x ∈ g y) {h : Hs} : ∀ {x : Hs}, Rch f h x → Rch g x h
  | _, .one hd => .one (hfg _ _ hd)
  | _, .step hx hd => Rch.ahead (hfg _ _ hd) (Rch.flip hfg hx)
theorem Rch.congr {f g : Hs → List Hs} (hfg : ∀ x y, y ∈ f x → y ∈ g x) {h : Hs} : ∀ {x : Hs}, Rch f h x → Rch g h x
  | _, .one hd => .one (hfg _ _ hd)
  | _, .step hx hd => .step (Rch.congr hfg hx) (hfg _ _ hd)
theorem Rch.last {f : Hs → List Hs} {h : Hs} {x : Hs} (hx : Rch f h x) : ∃ y, x ∈ f y := by
  cases hx with
  | one hd => exact ⟨_, hd⟩
  | step _ hd => exact ⟨_, hd⟩
abbrev visH (s t m : Nat) (M : List (Hs × LV)) (todo : List Hs) (b o c : Nat) : List Atom := [.cells s 43 [.raw (.map (some m))], .map m (mp hsKey M), .cells t 26 [.sl 32 (hss todo) (.tok b o c)], .tail b o c]
def newS (ks : List Hs) (d : Hs) : List Hs := if d ∈ ks then [] else [d]
theorem count1 {ks : List Hs} {d : Hs} (h : d ∉ ks) : ks.count d = 0 := List.count_eq_zero.2 h
set_option maxHeartbeats 1000000 in
set_option maxRecDepth 100000 in
theorem visit_calls (s t m : Nat) (M : List (Hs × LV)) (ks todo : List Hs) (b o c : Nat) (d : Hs) (hM : Many M ks) (hn : ks.Nodup) (hl : todo.length ≤ 1000001) : LCalls Try.prog 37 [.agg (hsL d), pt s, pt t] (visH s t m M todo b o c) (fun r H' => ∃ M' b' o' c', r = .tup [] ∧ H' = visH s t m M' (todo ++ newS ks d) b' o' c' ∧ Many M' (ks ++ newS ks d)) := by
  have hx2 : d.1.length = 32 := d.2
  have hcl : (ks.count d : Int) ≤ 1 := by have := List.nodup_iff_count.1 hn d; omega
  refine LCalls.of Try.func37 rfl Try.ntmps37 Try.results37 rfl (fun Rf => ?_)
  refine LW.seq ?_
  refine LW.region ?_
  refine X.act (X.box rfl Is.rfl' (by exact Cells.agg) (fun b3 => ?_))
  refine LL.nil (after_code ?_)
  refine LW.seq ?_
  refine LW.region ?_
  refine X.u (LU.loadO 1 rfl ⟨Try.sizeOf43, Try.isAgg43⟩ Is.rfl' (Part.one rfl)) rfl ?_
  refine X.u (LU.weak (LU.loadO 0 rfl ⟨Try.sizeOf34, Try.isAgg34⟩ Is.rfl' (Part.sub (by (simp; omega)))) (Is.of (y := .agg (hsL d)) (hs_whole d))) rfl ?_
  refine X.u (LU.weak (LU.lookup 2 (KeyOk.hs Try.underlying34 Try.underlying5 Try.sizeOf5) rfl Try.underlying43 Try.zeroValue3 Is.rfl' (by exact Is.hk _)) (Is.of (y := i64 (ks.count d : Nat)) (hM.get d))) rfl ?_
  refine X.u (LU.eql Is.rfl' Is.rfl') rfl ?_
  refine LL.nil (after_code ?_)
  refine X.cond rfl (fun h1 => ?_) (fun h1 => ?_)
  · have h1 : d ∉ ks := by have := of_decide_eq_true h1; exact List.count_eq_zero.1 (by omega)
    have hc0 : ks.count d = 0 := count1 h1
    have hd : (0 : Nat) = 0 := rfl
    refine LW.seq ?_
    refine LW.region ?_
    refine X.u (LU.loadO 1 rfl ⟨Try.sizeOf43, Try.isAgg43⟩ Is.rfl' (Part.one rfl)) rfl ?_
    refine X.u (LU.weak (LU.loadO 0 rfl ⟨Try.sizeOf34, Try.isAgg34⟩ Is.rfl' (Part.sub (by (simp; omega)))) (Is.of (y := .agg (hsL d)) (hs_whole d))) rfl ?_
    refine X.act (LO.mapUpdate (st := ⟨_, _, _⟩) 2 (KeyOk.hs Try.underlying34 Try.underlying5 Try.sizeOf5) rfl Try.underlying43 Is.rfl' (by exact Is.hk _) Is.rfl' ?_)
    refine LL.nil (after_code ?_)
    refine X.wghost (H' := .tail b o c :: .cells t 26 [.sl 32 (hss todo) (.tok b o c)] :: .cells b3 34 (hsL d) :: .cells s 43 [.raw (.map (some m))] :: .map m (mp hsKey (setM M d (i64 1))) :: Rf) (by repeat (first | exact HSub.refl _ | refine HSub.pick 1 rfl ?_ | refine HSub.pick 3 rfl ?_ | refine HSub.pick 4 rfl ?_)) ?_
    refine LW.region ?_
    refine X.u (LU.loadO 1 rfl ⟨Try.sizeOf26, Try.isAgg26⟩ Is.rfl' (Part.one rfl)) rfl ?_
    refine X.u (LU.weak (LU.loadO 2 rfl ⟨Try.sizeOf34, Try.isAgg34⟩ Is.rfl' (Part.sub (by (simp; omega)))) (Is.of (y := .agg (hsL d)) (hs_whole d))) rfl ?_
    refine X.u (LU.lits Try.underlying26 Try.sizeOf34 Try.zeroValue34 (ones rfl) rfl (by decide) (by decide) (Elems.cons Is.rfl' (by exact Cells.agg) Elems.nil) (by (simp; assumption)) rfl) rfl ?_
    refine X.act (X.append 0 rfl rfl Try.underlying26 (El.of (P := Try.prog) (z := (.agg #[(.int .u8 0), (.int .u8 0), (.int .u8 0), (.int .u8 0), (.int .u8 0), (.int .u8 0), (.int .u8 0), (.int .u8 0), (.int .u8 0), (.int .u8 0), (.int .u8 0), (.int .u8 0), (.int .u8 0), (.int .u8 0), (.int .u8 0), (.int .u8 0), (.int .u8 0), (.int .u8 0), (.int .u8 0), (.int .u8 0), (.int .u8 0), (.int .u8 0), (.int .u8 0), (.int .u8 0), (.int .u8 0), (.int .u8 0), (.int .u8 0), (.int .u8 0), (.int .u8 0), (.int .u8 0), (.int .u8 0), (.int .u8 0)])) (size := 32) (bytes := 32) rfl rfl rfl) Is.rfl' Is.rfl' (SrcL.slice Try.underlying26 (by decide) (by intro e he; rw [List.mem_singleton.1 he, List.length_map]; exact hx2)) (by simp only [Option.getD_some, Option.getD_none, byteEls_length, intEls_length, List.length_append, List.length_cons, List.length_nil, List.length_map, List.length_drop, List.length_take, Int.toNat_natCast]; omega) (by simp only [Option.getD_some, Option.getD_none, byteEls_length, intEls_length, List.length_append, List.length_cons, List.length_nil, List.length_map, List.length_drop, List.length_take, Int.toNat_natCast]; omega) (fun b13 o13 c13 => X.weak (t := 13) (Is.of (y := .sl 32 (hss (todo ++ [d])) (.tok b13 o13 c13)) (congrArg (fun z => LV.sl 32 z (.tok b13 o13 c13)) (hss_app todo [d]))) ?_))
    refine X.act (X.store 1 rfl Try.sizeOf26 Is.rfl' Is.rfl' (by exact Cells.sl) (by (simp; done)) (by (simp; done)) ?_)
    refine LL.nil (after_end ?_)
    refine X.normal (H' := visH s t m (setM M d (i64 1)) (todo ++ [d]) b13 o13 c13) Res.none (by repeat (first | exact HSub.refl _ | refine HSub.pick 0 rfl ?_ | refine HSub.pick 3 rfl ?_ | refine HSub.drop ?_)) ?_
    have hne : newS ks d = [d] := if_neg h1
    rw [hne]
    refine ⟨_, _, _, _, rfl, rfl, ?_⟩
    have := hM.add d
    rw [hc0] at this
    exact this
  · have h1 : d ∈ ks := by have := of_decide_eq_false h1; exact Classical.byContradiction fun c => this (by rw [List.count_eq_zero.2 c]; rfl)
    refine LW.skip (after_end ?_)
    refine X.normal (H' := visH s t m M todo b o c) Res.none (by repeat (first | exact HSub.refl _ | refine HSub.pick 1 rfl ?_ | refine HSub.drop ?_)) ?_
    have hne : newS ks d = [] := if_pos h1
    rw [hne, List.append_nil, List.append_nil]
    exact ⟨M, b, o, c, rfl, rfl, hM⟩
theorem newS_nodup {ks : List Hs} (h : ks.Nodup) (d : Hs) : (ks ++ newS ks d).Nodup := by
  unfold newS
  split
  · rw [List.append_nil]; exact h
  · exact nodup_snoc.2 ⟨h, by assumption⟩
theorem newS_mem {ks : List Hs} {d x : Hs} : x ∈ ks ++ newS ks d ↔ x ∈ ks ∨ x = d := by
  unfold newS
  split
  · rename_i c
    rw [List.append_nil]
    exact ⟨.inl, fun e => e.elim id fun e => by rw [e]; exact c⟩
  · rw [List.mem_append, List.mem_singleton]
end Go.Proofs.Ytmaeepckfbnpjaa
