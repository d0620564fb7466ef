/- Reader.Text. -/
import Derived.Test.YtahecnlglcfddaaOctetF
import Derived.Deep.RegionHeld3
set_option linter.unusedVariables false
set_option linter.unusedSimpArgs false
namespace Go.Proofs.Ytahecnlglcfddaa
open Go.RowKit Go.Sep

/-- The text that bytes begin with, how many bytes it takes, what is wrong. -/
def textN (l : List Int) (most : Int) : List Int × Nat × Nat :=
  let u := uintN l
  if u.2.2 = 0 then (if most.toNat < u.1 then ([], 0, 3) else if l.length - u.2.1 < u.1 then ([], 0, 10) else ((l.drop u.2.1).take u.1, u.2.1 + u.1, 0)) else ([], 0, u.2.2)

theorem rd_slice {w : World} {n m1 m2 c : Nat} {A : Option Addr} {l : List Int} (h : Rd w 1 A n (ints .u8 l)) (h1 : m1 ≤ m2) (h2 : m2 ≤ n) (hc : n ≤ c) : Rd w 1 (if c = m1 then A else A.map (·.add m1)) (m2 - m1) (ints .u8 ((l.drop m1).take (m2 - m1))) := by
  have := (h.drop (m := m1) (by omega) hc).take (m := m2 - m1) (by omega)
  rwa [← ints_drop, ← ints_take] at this


set_option maxHeartbeats 2000000 in
theorem text_pos (g : Nat) (A : Option Addr) (n c k : Nat) (l : List Int) (most : Int) (w0 w : World) (R : HP) (HS : Sts w0 w (own g A n c k l R)) (hb : Byts l) (hk : k ≤ n) (hn : n ≤ 100000000) (hm0 : -9223372036854775808 ≤ most) (hm1 : most < 9223372036854775808) (hs : (¬most<0)) :
    Calls Try.prog 28 #[.pointer (some ⟨g, 0, none⟩), .int .i64 most] w fun e w' => e = .returned (.tuple #[.string (strOfNums (textN (l.drop k) most).1), .int .i64 (textN (l.drop k) most).2.2]) ∧ Sts w0 w' (own g A n c (k + (textN (l.drop k) most).2.1) l R) := by
  have hr := own_reads HS hk
  have hnc : n ≤ c := by
    obtain ⟨A', c', e, h, _⟩ := HS.tail.row_rd
    injection e with _ _ e
    omega
  have HS := Asi.mk HS
  have HN := Asi.mk (none_calls g w hr.made)
  have HU := Asi.mk (number_calls g A n c k l w hr hb hn)
  have HP := Asi.mk (fun m => place_left_calls g A n c k l (w.drewN m) (hr.drewN m) hn)
  have hu := uintN_used (l.drop k)
  have hfit := uintN_fits (l.drop k)
  have hlen := rd_len hr.rd
  have hdl : (l.drop k).length = n - k := by rw [List.length_drop]; omega
  rw [hdl] at hu
  have ht : textN (l.drop k) most = if (uintN (l.drop k)).2.2 = 0 then (if most.toNat < (uintN (l.drop k)).1 then ([], 0, 3) else if (n - k) - (uintN (l.drop k)).2.1 < (uintN (l.drop k)).1 then ([], 0, 10) else (((l.drop k).drop (uintN (l.drop k)).2.1).take (uintN (l.drop k)).1, (uintN (l.drop k)).2.1 + (uintN (l.drop k)).1, 0)) else ([], 0, (uintN (l.drop k)).2.2) := by
    rw [← hdl]; rfl
  rw [ht]
  clear hr hb ht
  obtain ⟨d, hd⟩ : ∃ d, n - k = d := ⟨_, rfl⟩
  rw [hd] at HP hu hdl ⊢
  have hkd : k + d = n := by omega
  generalize uintN (l.drop k) = u at hu hfit HU ⊢
  obtain ⟨v, q, er⟩ := u
  have hu : q ≤ d := hu
  have hfit : v < 18446744073709551616 := hfit
  by_cases her : er = 0
  · subst her
    rw [if_pos rfl]
    by_cases hmo : most.toNat < v
    · have hmo2 : most.toNat < (v, q, 0).1 := hmo
      rw [if_pos hmo2]
      clear hmo2
      have hmx : IntKind.u64.wrap (max most 0) = (most.toNat : Int) := by rw [show max most 0 = ((most.toNat : Nat) : Int) by omega]; exact wrap_u64 _ (by omega)
      have hmo' : (most.toNat : Int) < v := by omega
      go_enter Try.func28, Try.ntmps28
      go_wp2_with (refine at_dst (N := 11) rfl ?_; refine stop ?_)
      refine ⟨?_⟩
      refine at_op rfl fun K hK => ?_
      refine op_call HN.out Try.func39 (by kernel_rfl) rfl rfl ?hargs ?_
      case hargs => (try simp only [List.map_toArray, List.map_cons, List.map_nil]); first | done | rfl
      rintro e w1 ⟨rfl, rfl⟩
      refine ⟨_, rfl, ?_⟩
      refine hK _ _ ?_
      clear hK K
      go_wp2_with (refine at_dst (N := 14) rfl ?_; refine stop ?_)
      refine ⟨?_⟩
      refine at_op rfl fun K hK => ?_
      refine op_call HU.out Try.func40 (by kernel_rfl) rfl rfl ?hargs ?_
      case hargs => (try simp only [List.map_toArray, List.map_cons, List.map_nil]); first | done | rfl
      rintro e w1 ⟨⟨m, rfl⟩, rfl⟩
      refine ⟨_, rfl, ?_⟩
      refine hK _ _ ?_
      clear hK K
      have HS1 := Asi.mk (HS.out.drewN m)
      clear HS HU HN
      go_wp2
      go_ret2
      exact ⟨rfl, HS1.out⟩
    · have hmo2 : ¬ most.toNat < (v, q, 0).1 := hmo
      rw [if_neg hmo2]
      clear hmo2
      have hmx : IntKind.u64.wrap (max most 0) = (most.toNat : Int) := by rw [show max most 0 = ((most.toNat : Nat) : Int) by omega]; exact wrap_u64 _ (by omega)
      have hmo' : ¬ (most.toNat : Int) < v := by omega
      have hw2 : IntKind.i64.wrap ((d : Int) - q) = ((d - q : Nat) : Int) := by rw [i64_small (by omega) (by omega)]; omega
      have hw3 : IntKind.u64.wrap ((d - q : Nat) : Int) = ((d - q : Nat) : Int) := wrap_u64 _ (by omega)
      have hd64 : d ≤ 100000000 := by omega
      by_cases hsh : d - q < v
      · have hsh2 : d - (v, q, 0).2.1 < (v, q, 0).1 := hsh
        rw [if_pos hsh2]
        clear hsh2
        have hsh' : ((d - q : Nat) : Int) < v := by omega
        have hs2 : ¬ most < 0 := by omega
        clear hs
        go_enter Try.func28, Try.ntmps28
        go_wp2_with (refine at_dst (N := 11) rfl ?_; refine stop ?_)
        refine ⟨?_⟩
        refine at_op rfl fun K hK => ?_
        refine op_call HN.out Try.func39 (by kernel_rfl) rfl rfl ?hargs ?_
        case hargs => (try simp only [List.map_toArray, List.map_cons, List.map_nil]); first | done | rfl
        rintro e w1 ⟨rfl, rfl⟩
        refine ⟨_, rfl, ?_⟩
        refine hK _ _ ?_
        clear hK K
        go_wp2_with (refine at_dst (N := 14) rfl ?_; refine stop ?_)
        refine ⟨?_⟩
        refine at_op rfl fun K hK => ?_
        refine op_call HU.out Try.func40 (by kernel_rfl) rfl rfl ?hargs ?_
        case hargs => (try simp only [List.map_toArray, List.map_cons, List.map_nil]); first | done | rfl
        rintro e w1 ⟨⟨m, rfl⟩, rfl⟩
        refine ⟨_, rfl, ?_⟩
        refine hK _ _ ?_
        clear hK K
        have HS1 := Asi.mk (HS.out.drewN m)
        clear HS HU HN
        go_wp2_with (refine at_dst (N := 33) rfl ?_; refine stop ?_)
        refine ⟨?_⟩
        refine at_op rfl fun K hK => ?_
        refine op_call (HP.out m) Try.func41 (by kernel_rfl) rfl rfl ?hargs ?_
        case hargs => (try simp only [List.map_toArray, List.map_cons, List.map_nil]); first | done | rfl
        rintro e w2 ⟨rfl, m2, rfl⟩
        refine ⟨_, rfl, ?_⟩
        refine hK _ _ ?_
        clear hK K
        have HS2 := Asi.mk (show Sts w0 (w.drewN (m + m2)) (own g A n c k l R) from drewN_drewN w m m2 ▸ HS1.out.drewN m2)
        clear HS1 HP
        go_wp2
        go_ret2
        exact ⟨rfl, HS2.out⟩
      · have hsh2 : ¬ d - (v, q, 0).2.1 < (v, q, 0).1 := hsh
        rw [if_neg hsh2, List.drop_drop]
        clear hsh2
        have hsh' : ¬ ((d - q : Nat) : Int) < v := by omega
        have hwa := i64_small (x := (k : Int) + q) (by omega) (by omega)
        have hwb := i64_small (x := (v : Int)) (by omega) (by omega)
        have hwc := i64_small (x := (k : Int) + q + v) (by omega) (by omega)
        have hwd := i64_small (x := (q : Int) + v) (by omega) (by omega)
        have hwe := i64_small (x := (k : Int) + (q + v)) (by omega) (by omega)
        have h1 : (0 : Int) ≤ (k : Int) + q := by omega
        have h2 : (k : Int) + q ≤ (k : Int) + q + v := by omega
        have h3 : (k : Int) + q + v ≤ c := by omega
        have h4 : (0 : Int) ≤ (k : Int) + q + v := by omega
        go_enter Try.func28, Try.ntmps28
        go_wp2_with (refine at_dst (N := 11) rfl ?_; refine stop ?_)
        refine ⟨?_⟩
        refine at_op rfl fun K hK => ?_
        refine op_call HN.out Try.func39 (by kernel_rfl) rfl rfl ?hargs ?_
        case hargs => (try simp only [List.map_toArray, List.map_cons, List.map_nil]); first | done | rfl
        rintro e w1 ⟨rfl, rfl⟩
        refine ⟨_, rfl, ?_⟩
        refine hK _ _ ?_
        clear hK K
        go_wp2_with (refine at_dst (N := 14) rfl ?_; refine stop ?_)
        refine ⟨?_⟩
        refine at_op rfl fun K hK => ?_
        refine op_call HU.out Try.func40 (by kernel_rfl) rfl rfl ?hargs ?_
        case hargs => (try simp only [List.map_toArray, List.map_cons, List.map_nil]); first | done | rfl
        rintro e w1 ⟨⟨m, rfl⟩, rfl⟩
        refine ⟨_, rfl, ?_⟩
        refine hK _ _ ?_
        clear hK K
        have HS1 := Asi.mk (HS.out.drewN m)
        clear HS HU HN
        go_wp2_with (refine at_dst (N := 33) rfl ?_; refine stop ?_)
        refine ⟨?_⟩
        refine at_op rfl fun K hK => ?_
        refine op_call (HP.out m) Try.func41 (by kernel_rfl) rfl rfl ?hargs ?_
        case hargs => (try simp only [List.map_toArray, List.map_cons, List.map_nil]); first | done | rfl
        rintro e w2 ⟨rfl, m2, rfl⟩
        refine ⟨_, rfl, ?_⟩
        refine hK _ _ ?_
        clear hK K
        have HS2 := Asi.mk (show Sts w0 (w.drewN (m + m2)) (own g A n c k l R) from drewN_drewN w m m2 ▸ HS1.out.drewN m2)
        clear HS1 HP
        go_wp2
        have HC := Asi.mk (fun (w' : World) (h : Below (w.drewN (m + m2)).heap.size (w.drewN (m + m2)) w') => own_reads (HS2.out.step h) hk)
        have hn1 : ((k : Int) + q).toNat = k + q := by omega
        have hn2 : ((k : Int) + q + v).toNat = k + q + v := by omega
        have HRD := Asi.mk (fun (w' : World) (h : Below (w.drewN (m + m2)).heap.size (w.drewN (m + m2)) w') => show Rd w' 1 (if c = k + q then A else A.map (·.add (k + q))) v (ints .u8 ((l.drop (k + q)).take v)) from by
          have := rd_slice (m1 := k + q) (m2 := k + q + v) (own_reads (HS2.out.step h) hk).rd (by omega) (by omega) hnc
          rw [show k + q + v - (k + q) = v by omega] at this
          exact this)
        have HL := Asi.mk (Sts.start (w.drewN (m + m2))).drew
        refine wp_region_held_drew (S := fun w' => Below (w.drewN (m + m2)).heap.size (w.drewN (m + m2)) w') (by kernel_rfl) HL.out.below (fun hHeld => ?_)
        refine wpAnyH_take (i := 0) (oi := _) (v := ?_) rfl (by kernel_rfl) (by kernel_rfl) (by kernel_rfl) (fun _ _ _ h => h) (Or.inl ⟨by rfl, ?hy⟩) (by assumption) ?_
        case hy => intro w' hS; go_simp; first | done | with_reducible rfl
        refine put_at (some 38) rfl ?_
        simp only [Act.put, List.setIfInBounds_toArray, List.set_cons_succ, List.set_cons_zero]
        refine wpAnyH_take (i := 1) (oi := _) (v := ?_) rfl (by kernel_rfl) (by kernel_rfl) (by kernel_rfl) (fun _ _ _ h => h) (Or.inl ⟨by rfl, ?hy⟩) (by assumption) ?_
        case hy => intro w' hS; go_simp; first | done | with_reducible rfl
        refine put_at (some 39) rfl ?_
        simp only [Act.put, List.setIfInBounds_toArray, List.set_cons_succ, List.set_cons_zero]
        refine wpAnyH_take (i := 2) (oi := _) (v := ?_) rfl (by kernel_rfl) (by kernel_rfl) (by kernel_rfl) (fun _ _ _ h => h) (Or.inl ⟨by rfl, ?hy⟩) (by assumption) ?_
        case hy => intro w' hS; go_simp; first | done | with_reducible rfl
        refine put_at (some 40) rfl ?_
        simp only [Act.put, List.setIfInBounds_toArray, List.set_cons_succ, List.set_cons_zero]
        refine wpAnyH_take (i := 3) (oi := _) (v := ?_) rfl (by kernel_rfl) (by kernel_rfl) (by kernel_rfl) (fun _ _ _ h => h) (Or.inl ⟨by rfl, ?hy⟩) (by assumption) ?_
        case hy => intro w' hS; go_simp; first | done | with_reducible rfl
        refine put_at (some 41) rfl ?_
        simp only [Act.put, List.setIfInBounds_toArray, List.set_cons_succ, List.set_cons_zero]
        refine wpAnyH_take (i := 4) (oi := _) (v := ?_) rfl (by kernel_rfl) (by kernel_rfl) (by kernel_rfl) (fun _ _ _ h => h) (Or.inl ⟨by rfl, ?hy⟩) (by assumption) ?_
        case hy => intro w' hS; have hq := (HC.out _ hS).b; go_simp; first | done | with_reducible rfl
        refine put_at (some 42) rfl ?_
        simp only [Act.put, List.setIfInBounds_toArray, List.set_cons_succ, List.set_cons_zero]
        refine wpAnyH_take (i := 5) (oi := _) (v := ?_) rfl (by kernel_rfl) (by kernel_rfl) (by kernel_rfl) (fun _ _ _ h => h) (Or.inl ⟨by rfl, ?hy⟩) (by assumption) ?_
        case hy => intro w' hS; go_simp; first | done | with_reducible rfl
        refine put_at (some 43) rfl ?_
        simp only [Act.put, List.setIfInBounds_toArray, List.set_cons_succ, List.set_cons_zero]
        refine wpAnyH_take (i := 6) (oi := _) (v := ?_) rfl (by kernel_rfl) (by kernel_rfl) (by kernel_rfl) (fun _ _ _ h => h) (Or.inl ⟨by rfl, ?hy⟩) (by assumption) ?_
        case hy => intro w' hS; go_simp; first | done | with_reducible rfl
        refine put_at (some 44) rfl ?_
        simp only [Act.put, List.setIfInBounds_toArray, List.set_cons_succ, List.set_cons_zero]
        refine wpAnyH_take (i := 7) (oi := _) (v := ?_) rfl (by kernel_rfl) (by kernel_rfl) (by kernel_rfl) (fun _ _ _ h => h) (Or.inl ⟨by rfl, ?hy⟩) (by assumption) ?_
        case hy => intro w' hS; go_simp; first | done | with_reducible rfl
        refine put_at (some 45) rfl ?_
        simp only [Act.put, List.setIfInBounds_toArray, List.set_cons_succ, List.set_cons_zero]
        refine wpAnyH_take (i := 8) (oi := _) (v := ?_) rfl (by kernel_rfl) (by kernel_rfl) (by kernel_rfl) (fun _ _ _ h => h) (Or.inl ⟨by rfl, ?hy⟩) (by assumption) ?_
        case hy => intro w' hS; go_simp; first | done | with_reducible rfl
        refine put_at (some 46) rfl ?_
        simp only [Act.put, List.setIfInBounds_toArray, List.set_cons_succ, List.set_cons_zero]
        refine wpAnyH_take (i := 9) (oi := _) (v := ?_) rfl (by kernel_rfl) (by kernel_rfl) (by kernel_rfl) (fun _ _ _ h => h) (Or.inl ⟨by rfl, ?hy⟩) (by assumption) ?_
        case hy => intro w' hS; have hq := (HC.out _ hS).pos; go_simp; first | done | with_reducible rfl
        refine put_at (some 47) rfl ?_
        simp only [Act.put, List.setIfInBounds_toArray, List.set_cons_succ, List.set_cons_zero]
        refine wpAnyH_take (i := 10) (oi := _) (v := ?_) rfl (by kernel_rfl) (by kernel_rfl) (by kernel_rfl) (fun _ _ _ h => h) (Or.inl ⟨by rfl, ?hy⟩) (by assumption) ?_
        case hy => intro w' hS; go_simp; first | done | with_reducible rfl
        refine put_at (some 48) rfl ?_
        simp only [Act.put, List.setIfInBounds_toArray, List.set_cons_succ, List.set_cons_zero]
        refine wpAnyH_take (i := 11) (oi := _) (v := ?_) rfl (by kernel_rfl) (by kernel_rfl) (by kernel_rfl) (fun _ _ _ h => h) (Or.inl ⟨by rfl, ?hy⟩) (by assumption) ?_
        case hy => intro w' hS; go_simp; first | done | with_reducible rfl
        refine put_at (some 49) rfl ?_
        simp only [Act.put, List.setIfInBounds_toArray, List.set_cons_succ, List.set_cons_zero]
        refine wpAnyH_take (i := 12) (oi := _) (v := ?_) rfl (by kernel_rfl) (by kernel_rfl) (by kernel_rfl) (fun _ _ _ h => h) (Or.inl ⟨by rfl, ?hy⟩) (by assumption) ?_
        case hy => intro w' hS; go_simp; first | done | with_reducible rfl
        refine put_at (some 50) rfl ?_
        simp only [Act.put, List.setIfInBounds_toArray, List.set_cons_succ, List.set_cons_zero]
        refine wpAnyH_take (i := 13) (oi := _) (v := ?_) rfl (by kernel_rfl) (by kernel_rfl) (by kernel_rfl) (fun _ _ _ h => h) (Or.inl ⟨by rfl, ?hy⟩) (by assumption) ?_
        case hy => intro w' hS; go_simp; first | done | with_reducible rfl
        refine put_at (some 51) rfl ?_
        simp only [Act.put, List.setIfInBounds_toArray, List.set_cons_succ, List.set_cons_zero]
        refine wpAnyH_take (i := 14) (oi := _) (v := ?_) rfl (by kernel_rfl) (by kernel_rfl) (by kernel_rfl) (fun _ _ _ h => h) (Or.inl ⟨by rfl, ?hy⟩) (by assumption) ?_
        case hy => intro w' hS; go_simp; first | done | with_reducible rfl
        refine put_at (some 52) rfl ?_
        simp only [Act.put, List.setIfInBounds_toArray, List.set_cons_succ, List.set_cons_zero]
        refine wpAnyH_take (i := 15) (oi := _) (v := ?_) rfl (by kernel_rfl) (by kernel_rfl) (by kernel_rfl) (fun _ _ _ h => h) (Or.inl ⟨by rfl, ?hy⟩) (by assumption) ?_
        case hy => intro w' hS; go_simp; first | done | with_reducible rfl
        refine put_at (some 53) rfl ?_
        simp only [Act.put, List.setIfInBounds_toArray, List.set_cons_succ, List.set_cons_zero]
        refine wpAnyH_take (i := 16) (oi := _) (v := ?_) rfl (by kernel_rfl) (by kernel_rfl) (by kernel_rfl) (fun _ _ _ h => h) (Or.inl ⟨by rfl, ?hy⟩) (by assumption) ?_
        case hy => intro w' hS; have hq := (HC.out _ hS).pos; go_simp; first | done | with_reducible rfl
        refine put_at (some 54) rfl ?_
        simp only [Act.put, List.setIfInBounds_toArray, List.set_cons_succ, List.set_cons_zero]
        refine wpAnyH_take (i := 17) (oi := _) (v := ?_) rfl (by kernel_rfl) (by kernel_rfl) (by kernel_rfl) (fun _ _ _ h => h) (Or.inl ⟨by rfl, ?hy⟩) (by assumption) ?_
        case hy => intro w' hS; go_simp; first | done | with_reducible rfl
        refine put_at (some 55) rfl ?_
        simp only [Act.put, List.setIfInBounds_toArray, List.set_cons_succ, List.set_cons_zero]
        refine wpAnyH_take (i := 18) (oi := _) (v := ?_) rfl (by kernel_rfl) (by kernel_rfl) (by kernel_rfl) (fun _ _ _ h => h) (Or.inl ⟨by rfl, ?hy⟩) (by assumption) ?_
        case hy => intro w' hS; go_simp; first | done | with_reducible rfl
        refine put_at (some 56) rfl ?_
        simp only [Act.put, List.setIfInBounds_toArray, List.set_cons_succ, List.set_cons_zero]
        refine wpAnyH_take (i := 19) (oi := _) (v := ?_) rfl (by kernel_rfl) (by kernel_rfl) (by kernel_rfl) (fun _ _ _ h => h) (Or.inl ⟨by rfl, ?hy⟩) (by assumption) ?_
        case hy => intro w' hS; go_simp; first | done | with_reducible rfl
        refine put_at (some 57) rfl ?_
        simp only [Act.put, List.setIfInBounds_toArray, List.set_cons_succ, List.set_cons_zero]
        refine wpAnyH_take (i := 20) (oi := _) (v := ?_) rfl (by kernel_rfl) (by kernel_rfl) (by kernel_rfl) (fun _ _ _ h => h) (Or.inl ⟨by rfl, ?hy⟩) (by assumption) ?_
        case hy => intro w' hS; go_simp; first | done | with_reducible rfl
        refine put_at (some 58) rfl ?_
        simp only [Act.put, List.setIfInBounds_toArray, List.set_cons_succ, List.set_cons_zero]
        refine wpAnyH_take (i := 21) (oi := _) (v := ?_) rfl (by kernel_rfl) (by kernel_rfl) (by kernel_rfl) (fun _ _ _ h => h) (Or.inl ⟨by rfl, ?hy⟩) (by assumption) ?_
        case hy => intro w' hS; go_simp; first | done | with_reducible rfl
        refine put_at (some 59) rfl ?_
        simp only [Act.put, List.setIfInBounds_toArray, List.set_cons_succ, List.set_cons_zero]
        refine wpAnyH_take (i := 22) (oi := _) (v := ?_) rfl (by kernel_rfl) (by kernel_rfl) (by kernel_rfl) (fun _ _ _ h => h) (Or.inl ⟨by rfl, ?hy⟩) (by assumption) ?_
        case hy => intro w' hS; go_simp; first | done | with_reducible rfl
        refine put_at (some 60) rfl ?_
        simp only [Act.put, List.setIfInBounds_toArray, List.set_cons_succ, List.set_cons_zero]
        refine wpAnyH_ready (rs := [23]) (by kernel_rfl) (by simp) ?_
        refine AllReadyH.cons (o := _) rfl (fun K hK => ?_) ?_
        · refine st_op rfl ?_
          refine op_str (l := ((l.drop (k + q)).take v)) rfl Try.underlying22 Try.underlying5 Try.underlying9 rfl (HRD.out _ HL.out.below) ?_
          refine hK.out _ _ HL.out.below (fun hHeld => ?_)
          clear hK K
          refine put_at (some 61) rfl ?_
          simp only [Act.put, List.setIfInBounds_toArray, List.set_cons_succ, List.set_cons_zero]
          refine wpAnyH_take (i := 24) (oi := _) (v := ?_) rfl (by kernel_rfl) (by kernel_rfl) (by kernel_rfl) (fun _ _ _ h => h) (Or.inl ⟨by rfl, ?hy⟩) (by assumption) ?_
          case hy => intro w' hS; go_simp; first | done | with_reducible rfl
          refine put_at (some 9) rfl ?_
          simp only [Act.put, List.setIfInBounds_toArray, List.set_cons_succ, List.set_cons_zero]
          refine wpAnyH_done (by kernel_rfl) ?_ _
          have HS3 := Asi.mk (HS2.out.step HL.out.below)
          clear HL
          generalize (w.drewN (m + m2)).drew = W3 at HS3 ⊢
          clear HS2 HC HRD
          have hb := HS3.out.blk_at
          have hc2 := blk_cell hb 2
          have hf2 := blk_frozen hb 2
          simp at hc2
          clear hb
          go_wp2
          all_goals go_ret2
          all_goals refine ⟨rfl, ?_⟩
          all_goals have h := HS3.out.set 2 (.int .i64 (k + (q + v)))
          all_goals first | (simpa [own] using h) | (rename_i hcc; subst hcc; simpa [own] using h)
        exact AllReadyH.nil
  · have her' : ¬ (er : Int) = 0 := by omega
    have her2 : ¬ (v, q, er).2.2 = 0 := her
    rw [if_neg her2]
    clear her2
    go_enter Try.func28, Try.ntmps28
    go_wp2_with (refine at_dst (N := 11) rfl ?_; refine stop ?_)
    refine ⟨?_⟩
    refine at_op rfl fun K hK => ?_
    refine op_call HN.out Try.func39 (by kernel_rfl) rfl rfl ?hargs ?_
    case hargs => (try simp only [List.map_toArray, List.map_cons, List.map_nil]); first | done | rfl
    rintro e w1 ⟨rfl, rfl⟩
    refine ⟨_, rfl, ?_⟩
    refine hK _ _ ?_
    clear hK K
    go_wp2_with (refine at_dst (N := 14) rfl ?_; refine stop ?_)
    refine ⟨?_⟩
    refine at_op rfl fun K hK => ?_
    refine op_call HU.out Try.func40 (by kernel_rfl) rfl rfl ?hargs ?_
    case hargs => (try simp only [List.map_toArray, List.map_cons, List.map_nil]); first | done | rfl
    rintro e w1 ⟨⟨m, rfl⟩, rfl⟩
    refine ⟨_, rfl, ?_⟩
    refine hK _ _ ?_
    clear hK K
    have HS1 := Asi.mk (HS.out.drewN m)
    clear HS HU HN
    go_wp2
    go_ret2
    exact ⟨rfl, HS1.out⟩

set_option maxHeartbeats 2000000 in
theorem text_neg (g : Nat) (A : Option Addr) (n c k : Nat) (l : List Int) (most : Int) (w0 w : World) (R : HP) (HS : Sts w0 w (own g A n c k l R)) (hb : Byts l) (hk : k ≤ n) (hn : n ≤ 100000000) (hm0 : -9223372036854775808 ≤ most) (hm1 : most < 9223372036854775808) (hs : (most<0)) :
    Calls Try.prog 28 #[.pointer (some ⟨g, 0, none⟩), .int .i64 most] w fun e w' => e = .returned (.tuple #[.string (strOfNums (textN (l.drop k) most).1), .int .i64 (textN (l.drop k) most).2.2]) ∧ Sts w0 w' (own g A n c (k + (textN (l.drop k) most).2.1) l R) := by
  have hr := own_reads HS hk
  have hnc : n ≤ c := by
    obtain ⟨A', c', e, h, _⟩ := HS.tail.row_rd
    injection e with _ _ e
    omega
  have HS := Asi.mk HS
  have HN := Asi.mk (none_calls g w hr.made)
  have HU := Asi.mk (number_calls g A n c k l w hr hb hn)
  have HP := Asi.mk (fun m => place_left_calls g A n c k l (w.drewN m) (hr.drewN m) hn)
  have hu := uintN_used (l.drop k)
  have hfit := uintN_fits (l.drop k)
  have hlen := rd_len hr.rd
  have hdl : (l.drop k).length = n - k := by rw [List.length_drop]; omega
  rw [hdl] at hu
  have ht : textN (l.drop k) most = if (uintN (l.drop k)).2.2 = 0 then (if most.toNat < (uintN (l.drop k)).1 then ([], 0, 3) else if (n - k) - (uintN (l.drop k)).2.1 < (uintN (l.drop k)).1 then ([], 0, 10) else (((l.drop k).drop (uintN (l.drop k)).2.1).take (uintN (l.drop k)).1, (uintN (l.drop k)).2.1 + (uintN (l.drop k)).1, 0)) else ([], 0, (uintN (l.drop k)).2.2) := by
    rw [← hdl]; rfl
  rw [ht]
  clear hr hb ht
  obtain ⟨d, hd⟩ : ∃ d, n - k = d := ⟨_, rfl⟩
  rw [hd] at HP hu hdl ⊢
  have hkd : k + d = n := by omega
  generalize uintN (l.drop k) = u at hu hfit HU ⊢
  obtain ⟨v, q, er⟩ := u
  have hu : q ≤ d := hu
  have hfit : v < 18446744073709551616 := hfit
  by_cases her : er = 0
  · subst her
    rw [if_pos rfl]
    by_cases hmo : most.toNat < v
    · have hmo2 : most.toNat < (v, q, 0).1 := hmo
      rw [if_pos hmo2]
      clear hmo2
      have hmx : IntKind.u64.wrap (max most 0) = (most.toNat : Int) := by rw [show max most 0 = ((most.toNat : Nat) : Int) by omega]; exact wrap_u64 _ (by omega)
      have hmo' : (most.toNat : Int) < v := by omega
      go_enter Try.func28, Try.ntmps28
      go_wp2_with (refine at_dst (N := 11) rfl ?_; refine stop ?_)
      refine ⟨?_⟩
      refine at_op rfl fun K hK => ?_
      refine op_call HN.out Try.func39 (by kernel_rfl) rfl rfl ?hargs ?_
      case hargs => (try simp only [List.map_toArray, List.map_cons, List.map_nil]); first | done | rfl
      rintro e w1 ⟨rfl, rfl⟩
      refine ⟨_, rfl, ?_⟩
      refine hK _ _ ?_
      clear hK K
      go_wp2_with (refine at_dst (N := 14) rfl ?_; refine stop ?_)
      refine ⟨?_⟩
      refine at_op rfl fun K hK => ?_
      refine op_call HU.out Try.func40 (by kernel_rfl) rfl rfl ?hargs ?_
      case hargs => (try simp only [List.map_toArray, List.map_cons, List.map_nil]); first | done | rfl
      rintro e w1 ⟨⟨m, rfl⟩, rfl⟩
      refine ⟨_, rfl, ?_⟩
      refine hK _ _ ?_
      clear hK K
      have HS1 := Asi.mk (HS.out.drewN m)
      clear HS HU HN
      go_wp2
      go_ret2
      exact ⟨rfl, HS1.out⟩
    · have hmo2 : ¬ most.toNat < (v, q, 0).1 := hmo
      rw [if_neg hmo2]
      clear hmo2
      have hmx : IntKind.u64.wrap (max most 0) = (most.toNat : Int) := by rw [show max most 0 = ((most.toNat : Nat) : Int) by omega]; exact wrap_u64 _ (by omega)
      have hmo' : ¬ (most.toNat : Int) < v := by omega
      have hw2 : IntKind.i64.wrap ((d : Int) - q) = ((d - q : Nat) : Int) := by rw [i64_small (by omega) (by omega)]; omega
      have hw3 : IntKind.u64.wrap ((d - q : Nat) : Int) = ((d - q : Nat) : Int) := wrap_u64 _ (by omega)
      have hd64 : d ≤ 100000000 := by omega
      by_cases hsh : d - q < v
      · have hsh2 : d - (v, q, 0).2.1 < (v, q, 0).1 := hsh
        rw [if_pos hsh2]
        clear hsh2
        have hsh' : ((d - q : Nat) : Int) < v := by omega
        have hs2 : ¬ most < 0 := by omega
        clear hs
        go_enter Try.func28, Try.ntmps28
        go_wp2_with (refine at_dst (N := 11) rfl ?_; refine stop ?_)
        refine ⟨?_⟩
        refine at_op rfl fun K hK => ?_
        refine op_call HN.out Try.func39 (by kernel_rfl) rfl rfl ?hargs ?_
        case hargs => (try simp only [List.map_toArray, List.map_cons, List.map_nil]); first | done | rfl
        rintro e w1 ⟨rfl, rfl⟩
        refine ⟨_, rfl, ?_⟩
        refine hK _ _ ?_
        clear hK K
        go_wp2_with (refine at_dst (N := 14) rfl ?_; refine stop ?_)
        refine ⟨?_⟩
        refine at_op rfl fun K hK => ?_
        refine op_call HU.out Try.func40 (by kernel_rfl) rfl rfl ?hargs ?_
        case hargs => (try simp only [List.map_toArray, List.map_cons, List.map_nil]); first | done | rfl
        rintro e w1 ⟨⟨m, rfl⟩, rfl⟩
        refine ⟨_, rfl, ?_⟩
        refine hK _ _ ?_
        clear hK K
        have HS1 := Asi.mk (HS.out.drewN m)
        clear HS HU HN
        go_wp2_with (refine at_dst (N := 33) rfl ?_; refine stop ?_)
        refine ⟨?_⟩
        refine at_op rfl fun K hK => ?_
        refine op_call (HP.out m) Try.func41 (by kernel_rfl) rfl rfl ?hargs ?_
        case hargs => (try simp only [List.map_toArray, List.map_cons, List.map_nil]); first | done | rfl
        rintro e w2 ⟨rfl, m2, rfl⟩
        refine ⟨_, rfl, ?_⟩
        refine hK _ _ ?_
        clear hK K
        have HS2 := Asi.mk (show Sts w0 (w.drewN (m + m2)) (own g A n c k l R) from drewN_drewN w m m2 ▸ HS1.out.drewN m2)
        clear HS1 HP
        go_wp2
        go_ret2
        exact ⟨rfl, HS2.out⟩
      · have hsh2 : ¬ d - (v, q, 0).2.1 < (v, q, 0).1 := hsh
        rw [if_neg hsh2, List.drop_drop]
        clear hsh2
        have hsh' : ¬ ((d - q : Nat) : Int) < v := by omega
        have hwa := i64_small (x := (k : Int) + q) (by omega) (by omega)
        have hwb := i64_small (x := (v : Int)) (by omega) (by omega)
        have hwc := i64_small (x := (k : Int) + q + v) (by omega) (by omega)
        have hwd := i64_small (x := (q : Int) + v) (by omega) (by omega)
        have hwe := i64_small (x := (k : Int) + (q + v)) (by omega) (by omega)
        have h1 : (0 : Int) ≤ (k : Int) + q := by omega
        have h2 : (k : Int) + q ≤ (k : Int) + q + v := by omega
        have h3 : (k : Int) + q + v ≤ c := by omega
        have h4 : (0 : Int) ≤ (k : Int) + q + v := by omega
        go_enter Try.func28, Try.ntmps28
        go_wp2_with (refine at_dst (N := 11) rfl ?_; refine stop ?_)
        refine ⟨?_⟩
        refine at_op rfl fun K hK => ?_
        refine op_call HN.out Try.func39 (by kernel_rfl) rfl rfl ?hargs ?_
        case hargs => (try simp only [List.map_toArray, List.map_cons, List.map_nil]); first | done | rfl
        rintro e w1 ⟨rfl, rfl⟩
        refine ⟨_, rfl, ?_⟩
        refine hK _ _ ?_
        clear hK K
        go_wp2_with (refine at_dst (N := 14) rfl ?_; refine stop ?_)
        refine ⟨?_⟩
        refine at_op rfl fun K hK => ?_
        refine op_call HU.out Try.func40 (by kernel_rfl) rfl rfl ?hargs ?_
        case hargs => (try simp only [List.map_toArray, List.map_cons, List.map_nil]); first | done | rfl
        rintro e w1 ⟨⟨m, rfl⟩, rfl⟩
        refine ⟨_, rfl, ?_⟩
        refine hK _ _ ?_
        clear hK K
        have HS1 := Asi.mk (HS.out.drewN m)
        clear HS HU HN
        go_wp2_with (refine at_dst (N := 33) rfl ?_; refine stop ?_)
        refine ⟨?_⟩
        refine at_op rfl fun K hK => ?_
        refine op_call (HP.out m) Try.func41 (by kernel_rfl) rfl rfl ?hargs ?_
        case hargs => (try simp only [List.map_toArray, List.map_cons, List.map_nil]); first | done | rfl
        rintro e w2 ⟨rfl, m2, rfl⟩
        refine ⟨_, rfl, ?_⟩
        refine hK _ _ ?_
        clear hK K
        have HS2 := Asi.mk (show Sts w0 (w.drewN (m + m2)) (own g A n c k l R) from drewN_drewN w m m2 ▸ HS1.out.drewN m2)
        clear HS1 HP
        go_wp2
        have HC := Asi.mk (fun (w' : World) (h : Below (w.drewN (m + m2)).heap.size (w.drewN (m + m2)) w') => own_reads (HS2.out.step h) hk)
        have hn1 : ((k : Int) + q).toNat = k + q := by omega
        have hn2 : ((k : Int) + q + v).toNat = k + q + v := by omega
        have HRD := Asi.mk (fun (w' : World) (h : Below (w.drewN (m + m2)).heap.size (w.drewN (m + m2)) w') => show Rd w' 1 (if c = k + q then A else A.map (·.add (k + q))) v (ints .u8 ((l.drop (k + q)).take v)) from by
          have := rd_slice (m1 := k + q) (m2 := k + q + v) (own_reads (HS2.out.step h) hk).rd (by omega) (by omega) hnc
          rw [show k + q + v - (k + q) = v by omega] at this
          exact this)
        have HL := Asi.mk (Sts.start (w.drewN (m + m2))).drew
        refine wp_region_held_drew (S := fun w' => Below (w.drewN (m + m2)).heap.size (w.drewN (m + m2)) w') (by kernel_rfl) HL.out.below (fun hHeld => ?_)
        refine wpAnyH_take (i := 0) (oi := _) (v := ?_) rfl (by kernel_rfl) (by kernel_rfl) (by kernel_rfl) (fun _ _ _ h => h) (Or.inl ⟨by rfl, ?hy⟩) (by assumption) ?_
        case hy => intro w' hS; go_simp; first | done | with_reducible rfl
        refine put_at (some 38) rfl ?_
        simp only [Act.put, List.setIfInBounds_toArray, List.set_cons_succ, List.set_cons_zero]
        refine wpAnyH_take (i := 1) (oi := _) (v := ?_) rfl (by kernel_rfl) (by kernel_rfl) (by kernel_rfl) (fun _ _ _ h => h) (Or.inl ⟨by rfl, ?hy⟩) (by assumption) ?_
        case hy => intro w' hS; go_simp; first | done | with_reducible rfl
        refine put_at (some 39) rfl ?_
        simp only [Act.put, List.setIfInBounds_toArray, List.set_cons_succ, List.set_cons_zero]
        refine wpAnyH_take (i := 2) (oi := _) (v := ?_) rfl (by kernel_rfl) (by kernel_rfl) (by kernel_rfl) (fun _ _ _ h => h) (Or.inl ⟨by rfl, ?hy⟩) (by assumption) ?_
        case hy => intro w' hS; go_simp; first | done | with_reducible rfl
        refine put_at (some 40) rfl ?_
        simp only [Act.put, List.setIfInBounds_toArray, List.set_cons_succ, List.set_cons_zero]
        refine wpAnyH_take (i := 3) (oi := _) (v := ?_) rfl (by kernel_rfl) (by kernel_rfl) (by kernel_rfl) (fun _ _ _ h => h) (Or.inl ⟨by rfl, ?hy⟩) (by assumption) ?_
        case hy => intro w' hS; go_simp; first | done | with_reducible rfl
        refine put_at (some 41) rfl ?_
        simp only [Act.put, List.setIfInBounds_toArray, List.set_cons_succ, List.set_cons_zero]
        refine wpAnyH_take (i := 4) (oi := _) (v := ?_) rfl (by kernel_rfl) (by kernel_rfl) (by kernel_rfl) (fun _ _ _ h => h) (Or.inl ⟨by rfl, ?hy⟩) (by assumption) ?_
        case hy => intro w' hS; have hq := (HC.out _ hS).b; go_simp; first | done | with_reducible rfl
        refine put_at (some 42) rfl ?_
        simp only [Act.put, List.setIfInBounds_toArray, List.set_cons_succ, List.set_cons_zero]
        refine wpAnyH_take (i := 5) (oi := _) (v := ?_) rfl (by kernel_rfl) (by kernel_rfl) (by kernel_rfl) (fun _ _ _ h => h) (Or.inl ⟨by rfl, ?hy⟩) (by assumption) ?_
        case hy => intro w' hS; go_simp; first | done | with_reducible rfl
        refine put_at (some 43) rfl ?_
        simp only [Act.put, List.setIfInBounds_toArray, List.set_cons_succ, List.set_cons_zero]
        refine wpAnyH_take (i := 6) (oi := _) (v := ?_) rfl (by kernel_rfl) (by kernel_rfl) (by kernel_rfl) (fun _ _ _ h => h) (Or.inl ⟨by rfl, ?hy⟩) (by assumption) ?_
        case hy => intro w' hS; go_simp; first | done | with_reducible rfl
        refine put_at (some 44) rfl ?_
        simp only [Act.put, List.setIfInBounds_toArray, List.set_cons_succ, List.set_cons_zero]
        refine wpAnyH_take (i := 7) (oi := _) (v := ?_) rfl (by kernel_rfl) (by kernel_rfl) (by kernel_rfl) (fun _ _ _ h => h) (Or.inl ⟨by rfl, ?hy⟩) (by assumption) ?_
        case hy => intro w' hS; go_simp; first | done | with_reducible rfl
        refine put_at (some 45) rfl ?_
        simp only [Act.put, List.setIfInBounds_toArray, List.set_cons_succ, List.set_cons_zero]
        refine wpAnyH_take (i := 8) (oi := _) (v := ?_) rfl (by kernel_rfl) (by kernel_rfl) (by kernel_rfl) (fun _ _ _ h => h) (Or.inl ⟨by rfl, ?hy⟩) (by assumption) ?_
        case hy => intro w' hS; go_simp; first | done | with_reducible rfl
        refine put_at (some 46) rfl ?_
        simp only [Act.put, List.setIfInBounds_toArray, List.set_cons_succ, List.set_cons_zero]
        refine wpAnyH_take (i := 9) (oi := _) (v := ?_) rfl (by kernel_rfl) (by kernel_rfl) (by kernel_rfl) (fun _ _ _ h => h) (Or.inl ⟨by rfl, ?hy⟩) (by assumption) ?_
        case hy => intro w' hS; have hq := (HC.out _ hS).pos; go_simp; first | done | with_reducible rfl
        refine put_at (some 47) rfl ?_
        simp only [Act.put, List.setIfInBounds_toArray, List.set_cons_succ, List.set_cons_zero]
        refine wpAnyH_take (i := 10) (oi := _) (v := ?_) rfl (by kernel_rfl) (by kernel_rfl) (by kernel_rfl) (fun _ _ _ h => h) (Or.inl ⟨by rfl, ?hy⟩) (by assumption) ?_
        case hy => intro w' hS; go_simp; first | done | with_reducible rfl
        refine put_at (some 48) rfl ?_
        simp only [Act.put, List.setIfInBounds_toArray, List.set_cons_succ, List.set_cons_zero]
        refine wpAnyH_take (i := 11) (oi := _) (v := ?_) rfl (by kernel_rfl) (by kernel_rfl) (by kernel_rfl) (fun _ _ _ h => h) (Or.inl ⟨by rfl, ?hy⟩) (by assumption) ?_
        case hy => intro w' hS; go_simp; first | done | with_reducible rfl
        refine put_at (some 49) rfl ?_
        simp only [Act.put, List.setIfInBounds_toArray, List.set_cons_succ, List.set_cons_zero]
        refine wpAnyH_take (i := 12) (oi := _) (v := ?_) rfl (by kernel_rfl) (by kernel_rfl) (by kernel_rfl) (fun _ _ _ h => h) (Or.inl ⟨by rfl, ?hy⟩) (by assumption) ?_
        case hy => intro w' hS; go_simp; first | done | with_reducible rfl
        refine put_at (some 50) rfl ?_
        simp only [Act.put, List.setIfInBounds_toArray, List.set_cons_succ, List.set_cons_zero]
        refine wpAnyH_take (i := 13) (oi := _) (v := ?_) rfl (by kernel_rfl) (by kernel_rfl) (by kernel_rfl) (fun _ _ _ h => h) (Or.inl ⟨by rfl, ?hy⟩) (by assumption) ?_
        case hy => intro w' hS; go_simp; first | done | with_reducible rfl
        refine put_at (some 51) rfl ?_
        simp only [Act.put, List.setIfInBounds_toArray, List.set_cons_succ, List.set_cons_zero]
        refine wpAnyH_take (i := 14) (oi := _) (v := ?_) rfl (by kernel_rfl) (by kernel_rfl) (by kernel_rfl) (fun _ _ _ h => h) (Or.inl ⟨by rfl, ?hy⟩) (by assumption) ?_
        case hy => intro w' hS; go_simp; first | done | with_reducible rfl
        refine put_at (some 52) rfl ?_
        simp only [Act.put, List.setIfInBounds_toArray, List.set_cons_succ, List.set_cons_zero]
        refine wpAnyH_take (i := 15) (oi := _) (v := ?_) rfl (by kernel_rfl) (by kernel_rfl) (by kernel_rfl) (fun _ _ _ h => h) (Or.inl ⟨by rfl, ?hy⟩) (by assumption) ?_
        case hy => intro w' hS; go_simp; first | done | with_reducible rfl
        refine put_at (some 53) rfl ?_
        simp only [Act.put, List.setIfInBounds_toArray, List.set_cons_succ, List.set_cons_zero]
        refine wpAnyH_take (i := 16) (oi := _) (v := ?_) rfl (by kernel_rfl) (by kernel_rfl) (by kernel_rfl) (fun _ _ _ h => h) (Or.inl ⟨by rfl, ?hy⟩) (by assumption) ?_
        case hy => intro w' hS; have hq := (HC.out _ hS).pos; go_simp; first | done | with_reducible rfl
        refine put_at (some 54) rfl ?_
        simp only [Act.put, List.setIfInBounds_toArray, List.set_cons_succ, List.set_cons_zero]
        refine wpAnyH_take (i := 17) (oi := _) (v := ?_) rfl (by kernel_rfl) (by kernel_rfl) (by kernel_rfl) (fun _ _ _ h => h) (Or.inl ⟨by rfl, ?hy⟩) (by assumption) ?_
        case hy => intro w' hS; go_simp; first | done | with_reducible rfl
        refine put_at (some 55) rfl ?_
        simp only [Act.put, List.setIfInBounds_toArray, List.set_cons_succ, List.set_cons_zero]
        refine wpAnyH_take (i := 18) (oi := _) (v := ?_) rfl (by kernel_rfl) (by kernel_rfl) (by kernel_rfl) (fun _ _ _ h => h) (Or.inl ⟨by rfl, ?hy⟩) (by assumption) ?_
        case hy => intro w' hS; go_simp; first | done | with_reducible rfl
        refine put_at (some 56) rfl ?_
        simp only [Act.put, List.setIfInBounds_toArray, List.set_cons_succ, List.set_cons_zero]
        refine wpAnyH_take (i := 19) (oi := _) (v := ?_) rfl (by kernel_rfl) (by kernel_rfl) (by kernel_rfl) (fun _ _ _ h => h) (Or.inl ⟨by rfl, ?hy⟩) (by assumption) ?_
        case hy => intro w' hS; go_simp; first | done | with_reducible rfl
        refine put_at (some 57) rfl ?_
        simp only [Act.put, List.setIfInBounds_toArray, List.set_cons_succ, List.set_cons_zero]
        refine wpAnyH_take (i := 20) (oi := _) (v := ?_) rfl (by kernel_rfl) (by kernel_rfl) (by kernel_rfl) (fun _ _ _ h => h) (Or.inl ⟨by rfl, ?hy⟩) (by assumption) ?_
        case hy => intro w' hS; go_simp; first | done | with_reducible rfl
        refine put_at (some 58) rfl ?_
        simp only [Act.put, List.setIfInBounds_toArray, List.set_cons_succ, List.set_cons_zero]
        refine wpAnyH_take (i := 21) (oi := _) (v := ?_) rfl (by kernel_rfl) (by kernel_rfl) (by kernel_rfl) (fun _ _ _ h => h) (Or.inl ⟨by rfl, ?hy⟩) (by assumption) ?_
        case hy => intro w' hS; go_simp; first | done | with_reducible rfl
        refine put_at (some 59) rfl ?_
        simp only [Act.put, List.setIfInBounds_toArray, List.set_cons_succ, List.set_cons_zero]
        refine wpAnyH_take (i := 22) (oi := _) (v := ?_) rfl (by kernel_rfl) (by kernel_rfl) (by kernel_rfl) (fun _ _ _ h => h) (Or.inl ⟨by rfl, ?hy⟩) (by assumption) ?_
        case hy => intro w' hS; go_simp; first | done | with_reducible rfl
        refine put_at (some 60) rfl ?_
        simp only [Act.put, List.setIfInBounds_toArray, List.set_cons_succ, List.set_cons_zero]
        refine wpAnyH_ready (rs := [23]) (by kernel_rfl) (by simp) ?_
        refine AllReadyH.cons (o := _) rfl (fun K hK => ?_) ?_
        · refine st_op rfl ?_
          refine op_str (l := ((l.drop (k + q)).take v)) rfl Try.underlying22 Try.underlying5 Try.underlying9 rfl (HRD.out _ HL.out.below) ?_
          refine hK.out _ _ HL.out.below (fun hHeld => ?_)
          clear hK K
          refine put_at (some 61) rfl ?_
          simp only [Act.put, List.setIfInBounds_toArray, List.set_cons_succ, List.set_cons_zero]
          refine wpAnyH_take (i := 24) (oi := _) (v := ?_) rfl (by kernel_rfl) (by kernel_rfl) (by kernel_rfl) (fun _ _ _ h => h) (Or.inl ⟨by rfl, ?hy⟩) (by assumption) ?_
          case hy => intro w' hS; go_simp; first | done | with_reducible rfl
          refine put_at (some 9) rfl ?_
          simp only [Act.put, List.setIfInBounds_toArray, List.set_cons_succ, List.set_cons_zero]
          refine wpAnyH_done (by kernel_rfl) ?_ _
          have HS3 := Asi.mk (HS2.out.step HL.out.below)
          clear HL
          generalize (w.drewN (m + m2)).drew = W3 at HS3 ⊢
          clear HS2 HC HRD
          have hb := HS3.out.blk_at
          have hc2 := blk_cell hb 2
          have hf2 := blk_frozen hb 2
          simp at hc2
          clear hb
          go_wp2
          all_goals go_ret2
          all_goals refine ⟨rfl, ?_⟩
          all_goals have h := HS3.out.set 2 (.int .i64 (k + (q + v)))
          all_goals first | (simpa [own] using h) | (rename_i hcc; subst hcc; simpa [own] using h)
        exact AllReadyH.nil
  · have her' : ¬ (er : Int) = 0 := by omega
    have her2 : ¬ (v, q, er).2.2 = 0 := her
    rw [if_neg her2]
    clear her2
    go_enter Try.func28, Try.ntmps28
    go_wp2_with (refine at_dst (N := 11) rfl ?_; refine stop ?_)
    refine ⟨?_⟩
    refine at_op rfl fun K hK => ?_
    refine op_call HN.out Try.func39 (by kernel_rfl) rfl rfl ?hargs ?_
    case hargs => (try simp only [List.map_toArray, List.map_cons, List.map_nil]); first | done | rfl
    rintro e w1 ⟨rfl, rfl⟩
    refine ⟨_, rfl, ?_⟩
    refine hK _ _ ?_
    clear hK K
    go_wp2_with (refine at_dst (N := 14) rfl ?_; refine stop ?_)
    refine ⟨?_⟩
    refine at_op rfl fun K hK => ?_
    refine op_call HU.out Try.func40 (by kernel_rfl) rfl rfl ?hargs ?_
    case hargs => (try simp only [List.map_toArray, List.map_cons, List.map_nil]); first | done | rfl
    rintro e w1 ⟨⟨m, rfl⟩, rfl⟩
    refine ⟨_, rfl, ?_⟩
    refine hK _ _ ?_
    clear hK K
    have HS1 := Asi.mk (HS.out.drewN m)
    clear HS HU HN
    go_wp2
    go_ret2
    exact ⟨rfl, HS1.out⟩

theorem text_calls (g : Nat) (A : Option Addr) (n c k : Nat) (l : List Int) (most : Int) (w0 w : World) (R : HP) (HS : Sts w0 w (own g A n c k l R)) (hb : Byts l) (hk : k ≤ n) (hn : n ≤ 100000000) (hm0 : -9223372036854775808 ≤ most) (hm1 : most < 9223372036854775808) :
    Calls Try.prog 28 #[.pointer (some ⟨g, 0, none⟩), .int .i64 most] w fun e w' => e = .returned (.tuple #[.string (strOfNums (textN (l.drop k) most).1), .int .i64 (textN (l.drop k) most).2.2]) ∧ Sts w0 w' (own g A n c (k + (textN (l.drop k) most).2.1) l R) := by
  by_cases hs : most < 0
  · exact text_neg g A n c k l most w0 w R HS hb hk hn hm0 hm1 hs
  · exact text_pos g A n c k l most w0 w R HS hb hk hn hm0 hm1 hs
end Go.Proofs.Ytahecnlglcfddaa
