/- What bytes read as, as a frame. -/
import Derived.Test.YtahecnlglcfddaaFrameE
import Derived.Deep.RegionHeld3
set_option linter.unusedVariables false
set_option linter.unusedSimpArgs false
namespace Go.Proofs.Ytahecnlglcfddaa
open Go.RowKit Go.Sep

def unf (l : List Int) : List Int × Nat × Nat :=
  if l.length < 8 then ([], 0, 10)
  else if numB (l.drop 4) = crc (l.take 4) then
    (if 65536 < numB l then ([], 0, 3)
    else if l.length < numB l + 12 then ([], 0, 10)
    else if numB (l.drop (8 + numB l)) = crc ((l.drop 8).take (numB l)) then ((l.drop 8).take (numB l), numB l + 12, 0)
    else ([], 0, 40))
  else ([], 0, 40)
theorem rd_from {w : World} {n m c : Nat} {A : Option Addr} {l : List Int} (h : Rd w 1 A n (ints .u8 l)) (hm : m ≤ n) (hc : n ≤ c) : Rd w 1 (if c = m then A else A.map (·.add m)) (n - m) (ints .u8 (l.drop m)) := by
  rw [ints_drop]; exact h.drop hm hc
theorem rd_to {w : World} {n m : Nat} {A : Option Addr} {l : List Int} (h : Rd w 1 A n (ints .u8 l)) (hm : m ≤ n) : Rd w 1 A m (ints .u8 (l.take m)) := by
  rw [ints_take]; exact h.take hm
theorem rd_mid {w : World} {n m k c : Nat} {A : Option Addr} {l : List Int} (h : Rd w 1 A n (ints .u8 l)) (h2 : m + k ≤ n) (hc : n ≤ c) : Rd w 1 (if c = m then A else A.map (·.add m)) k (ints .u8 ((l.drop m).take k)) := by
  have := (h.drop (m := m) (by omega) hc).take (m := k) (by omega)
  rwa [← ints_drop, ← ints_take] at this
theorem i64_small {x : Int} (h : -9223372036854775808 ≤ x) (h2 : x < 9223372036854775808) : IntKind.i64.wrap x = x := by rw [IntKind.wrap_i64]; omega
theorem below_drew {w W : World} (h : ∃ m, W = w.drewN m) : Below w.heap.size w W := by
  obtain ⟨m, rfl⟩ := h
  exact below_drewN (Below.refl _ _) m

set_option maxHeartbeats 4000000 in
theorem unframe_calls (A : Option Addr) (n c : Nat) (l : List Int) (w : World) (HR : Rd w 1 A n (ints .u8 l)) (hb : Byts l) (hc : n ≤ c) (hn : n ≤ 100000000) :
    Calls Try.prog 24 #[.slice A n c] w fun e w' => ∃ v, e = .returned (.tuple #[v, .int .i64 (unf l).2.1, .int .i64 (unf l).2.2]) ∧ Sts w w' (star (row 5 1 v (unf l).1.length (ints .u8 (unf l).1)) emp) := by
  have hl := rd_len HR
  have HR := Asi.mk HR
  have HB := Asi.mk hb
  have HS := Asi.mk (Sts.start w)
  have hnl := numB_lt l hb
  clear hb
  unfold unf
  by_cases h8 : l.length < 8
  · rw [if_pos h8]
    have h8' : (n : Int) < 8 := by omega
    go_enter Try.func24, Try.ntmps24
    go_wp2
    go_ret3
    exact ⟨_, rfl, HS.out.row_nil _ _⟩
  · rw [if_neg h8]
    have h8' : ¬ (n : Int) < 8 := by omega
    have h4 : (4 : Int) ≤ n := by omega
    have h4c : (4 : Int) ≤ c := by omega
    have hnc : (n : Int) ≤ c := by omega
    by_cases h1 : numB (l.drop 4) = crc (l.take 4)
    · rw [if_pos h1]
      have h1' : ((numB (l.drop 4) : Nat) : Int) = (crc (l.take 4) : Nat) := by omega
      by_cases h2 : 65536 < numB l
      · rw [if_pos h2]
        have h2' : (65536 : Int) < (numB l : Nat) := by omega
        go_enter Try.func24, Try.ntmps24
        go_wp2
        have HL := Asi.mk (Sts.start w).drew
        refine wp_region_held_drew (S := fun w' => Below w.heap.size w w') (by kernel_rfl) HL.out.below (fun hHeld => ?_)
        refine wpAnyH_take (i := 0) (oi := _) (v := ?_) rfl (by kernel_rfl) (by kernel_rfl) (by kernel_rfl) (fun _ _ _ h => h) (Or.inl ⟨by rfl, ?hy⟩) (by assumption) ?_
        case hy => intro w' hS; go_simp; first | done | with_reducible rfl
        refine put_at (some 11) rfl ?_
        simp only [Act.put, List.setIfInBounds_toArray, List.set_cons_succ, List.set_cons_zero]
        refine wpAnyH_take (i := 1) (oi := _) (v := ?_) rfl (by kernel_rfl) (by kernel_rfl) (by kernel_rfl) (fun _ _ _ h => h) (Or.inl ⟨by rfl, ?hy⟩) (by assumption) ?_
        case hy => intro w' hS; go_simp; first | done | with_reducible rfl
        refine put_at (some 12) rfl ?_
        simp only [Act.put, List.setIfInBounds_toArray, List.set_cons_succ, List.set_cons_zero]
        refine wpAnyH_take (i := 3) (oi := _) (v := ?_) rfl (by kernel_rfl) (by kernel_rfl) (by kernel_rfl) (fun _ _ _ h => h) (Or.inl ⟨by rfl, ?hy⟩) (by assumption) ?_
        case hy => intro w' hS; go_simp; first | done | with_reducible rfl
        refine put_at (some 14) rfl ?_
        simp only [Act.put, List.setIfInBounds_toArray, List.set_cons_succ, List.set_cons_zero]
        refine wpAnyH_take (i := 4) (oi := _) (v := ?_) rfl (by kernel_rfl) (by kernel_rfl) (by kernel_rfl) (fun _ _ _ h => h) (Or.inl ⟨by rfl, ?hy⟩) (by assumption) ?_
        case hy => intro w' hS; go_simp; first | done | with_reducible rfl
        refine put_at (some 15) rfl ?_
        simp only [Act.put, List.setIfInBounds_toArray, List.set_cons_succ, List.set_cons_zero]
        refine wpAnyH_ready (rs := [2]) (by kernel_rfl) (by simp) ?_
        refine AllReadyH.cons (o := _) rfl (fun K hK => ?_) ?_
        · refine st_op rfl ?_
          refine op_call (number4_calls _ (n - 4) (c - 4) (l.drop 4) _ (rd_from (HR.out.below HL.out.below) (by omega) hc) (HB.out.drop 4) (by omega) (by omega)) Try.func38 (by kernel_rfl) rfl rfl (by first | rfl | (simp only [List.map_toArray, List.map_cons, List.map_nil]; first | done | rfl)) ?_
          rintro e w1 ⟨rfl, h⟩
          refine ⟨_, rfl, ?_⟩
          have HL := Asi.mk (HL.out.step (below_drew h))
          clear h
          refine hK.out _ _ HL.out.below (fun hHeld => ?_)
          clear hK K
          refine put_at (some 13) rfl ?_
          simp only [Act.put, List.setIfInBounds_toArray, List.set_cons_succ, List.set_cons_zero]
          refine wpAnyH_ready (rs := [5]) (by kernel_rfl) (by simp) ?_
          refine AllReadyH.cons (o := _) rfl (fun K hK => ?_) ?_
          · refine st_op rfl ?_
            refine op_call (sum_calls A 4 c (l.take 4) _ (rd_to (HR.out.below HL.out.below) (by omega)) (HB.out.take 4) (by omega)) Try.func20 (by kernel_rfl) rfl rfl (by first | rfl | (simp only [List.map_toArray, List.map_cons, List.map_nil]; first | done | rfl)) ?_
            rintro e w2 ⟨rfl, rfl⟩
            refine ⟨_, rfl, ?_⟩
            refine hK.out _ _ HL.out.below (fun hHeld => ?_)
            clear hK K
            refine put_at (some 16) rfl ?_
            simp only [Act.put, List.setIfInBounds_toArray, List.set_cons_succ, List.set_cons_zero]
            refine wpAnyH_take (i := 6) (oi := _) (v := ?_) rfl (by kernel_rfl) (by kernel_rfl) (by kernel_rfl) (fun _ _ _ h => h) (Or.inl ⟨by rfl, ?hy⟩) (by assumption) ?_
            case hy => intro w' hS; go_simp; first | done | with_reducible rfl
            refine put_at (some 17) rfl ?_
            simp only [Act.put, List.setIfInBounds_toArray, List.set_cons_succ, List.set_cons_zero]
            refine wpAnyH_take (i := 7) (oi := _) (v := ?_) rfl (by kernel_rfl) (by kernel_rfl) (by kernel_rfl) (fun _ _ _ h => h) (Or.inl ⟨by rfl, ?hy⟩) (by assumption) ?_
            case hy => intro w' hS; go_simp; first | done | with_reducible rfl
            refine put_at (some 10) rfl ?_
            simp only [Act.put, List.setIfInBounds_toArray, List.set_cons_succ, List.set_cons_zero]
            refine wpAnyH_done (by kernel_rfl) ?_ _
            go_wp2_with (refine at_dst (N := 20) rfl ?_; refine stop ?_)
            refine ⟨?_⟩
            refine at_op rfl fun K hK => ?_
            refine op_call (number4_calls A n c l _ (HR.out.below HL.out.below) HB.out (by omega) (by omega)) Try.func38 (by kernel_rfl) rfl rfl ?hargs ?_
            case hargs => (try simp only [List.map_toArray, List.map_cons, List.map_nil]); first | done | rfl
            rintro e w3 ⟨rfl, h⟩
            refine ⟨_, rfl, ?_⟩
            refine hK _ _ ?_
            clear hK K
            have HL := Asi.mk (HL.out.step (below_drew h))
            clear h
            go_wp2
            go_ret3
            exact ⟨_, rfl, HL.out.row_nil _ _⟩
          exact AllReadyH.nil
        exact AllReadyH.nil
      · rw [if_neg h2]
        have h2' : ¬ (65536 : Int) < (numB l : Nat) := by omega
        have hwN := i64_small (x := ((numB l : Nat) : Int)) (by omega) (by omega)
        have hwn := i64_small (x := (n : Int) - 12) (by omega) (by omega)
        by_cases h3 : l.length < numB l + 12
        · rw [if_pos h3]
          have h3' : (n : Int) - 12 < (numB l : Nat) := by omega
          go_enter Try.func24, Try.ntmps24
          go_wp2
          have HL := Asi.mk (Sts.start w).drew
          refine wp_region_held_drew (S := fun w' => Below w.heap.size w w') (by kernel_rfl) HL.out.below (fun hHeld => ?_)
          refine wpAnyH_take (i := 0) (oi := _) (v := ?_) rfl (by kernel_rfl) (by kernel_rfl) (by kernel_rfl) (fun _ _ _ h => h) (Or.inl ⟨by rfl, ?hy⟩) (by assumption) ?_
          case hy => intro w' hS; go_simp; first | done | with_reducible rfl
          refine put_at (some 11) rfl ?_
          simp only [Act.put, List.setIfInBounds_toArray, List.set_cons_succ, List.set_cons_zero]
          refine wpAnyH_take (i := 1) (oi := _) (v := ?_) rfl (by kernel_rfl) (by kernel_rfl) (by kernel_rfl) (fun _ _ _ h => h) (Or.inl ⟨by rfl, ?hy⟩) (by assumption) ?_
          case hy => intro w' hS; go_simp; first | done | with_reducible rfl
          refine put_at (some 12) rfl ?_
          simp only [Act.put, List.setIfInBounds_toArray, List.set_cons_succ, List.set_cons_zero]
          refine wpAnyH_take (i := 3) (oi := _) (v := ?_) rfl (by kernel_rfl) (by kernel_rfl) (by kernel_rfl) (fun _ _ _ h => h) (Or.inl ⟨by rfl, ?hy⟩) (by assumption) ?_
          case hy => intro w' hS; go_simp; first | done | with_reducible rfl
          refine put_at (some 14) rfl ?_
          simp only [Act.put, List.setIfInBounds_toArray, List.set_cons_succ, List.set_cons_zero]
          refine wpAnyH_take (i := 4) (oi := _) (v := ?_) rfl (by kernel_rfl) (by kernel_rfl) (by kernel_rfl) (fun _ _ _ h => h) (Or.inl ⟨by rfl, ?hy⟩) (by assumption) ?_
          case hy => intro w' hS; go_simp; first | done | with_reducible rfl
          refine put_at (some 15) rfl ?_
          simp only [Act.put, List.setIfInBounds_toArray, List.set_cons_succ, List.set_cons_zero]
          refine wpAnyH_ready (rs := [2]) (by kernel_rfl) (by simp) ?_
          refine AllReadyH.cons (o := _) rfl (fun K hK => ?_) ?_
          · refine st_op rfl ?_
            refine op_call (number4_calls _ (n - 4) (c - 4) (l.drop 4) _ (rd_from (HR.out.below HL.out.below) (by omega) hc) (HB.out.drop 4) (by omega) (by omega)) Try.func38 (by kernel_rfl) rfl rfl (by first | rfl | (simp only [List.map_toArray, List.map_cons, List.map_nil]; first | done | rfl)) ?_
            rintro e w1 ⟨rfl, h⟩
            refine ⟨_, rfl, ?_⟩
            have HL := Asi.mk (HL.out.step (below_drew h))
            clear h
            refine hK.out _ _ HL.out.below (fun hHeld => ?_)
            clear hK K
            refine put_at (some 13) rfl ?_
            simp only [Act.put, List.setIfInBounds_toArray, List.set_cons_succ, List.set_cons_zero]
            refine wpAnyH_ready (rs := [5]) (by kernel_rfl) (by simp) ?_
            refine AllReadyH.cons (o := _) rfl (fun K hK => ?_) ?_
            · refine st_op rfl ?_
              refine op_call (sum_calls A 4 c (l.take 4) _ (rd_to (HR.out.below HL.out.below) (by omega)) (HB.out.take 4) (by omega)) Try.func20 (by kernel_rfl) rfl rfl (by first | rfl | (simp only [List.map_toArray, List.map_cons, List.map_nil]; first | done | rfl)) ?_
              rintro e w2 ⟨rfl, rfl⟩
              refine ⟨_, rfl, ?_⟩
              refine hK.out _ _ HL.out.below (fun hHeld => ?_)
              clear hK K
              refine put_at (some 16) rfl ?_
              simp only [Act.put, List.setIfInBounds_toArray, List.set_cons_succ, List.set_cons_zero]
              refine wpAnyH_take (i := 6) (oi := _) (v := ?_) rfl (by kernel_rfl) (by kernel_rfl) (by kernel_rfl) (fun _ _ _ h => h) (Or.inl ⟨by rfl, ?hy⟩) (by assumption) ?_
              case hy => intro w' hS; go_simp; first | done | with_reducible rfl
              refine put_at (some 17) rfl ?_
              simp only [Act.put, List.setIfInBounds_toArray, List.set_cons_succ, List.set_cons_zero]
              refine wpAnyH_take (i := 7) (oi := _) (v := ?_) rfl (by kernel_rfl) (by kernel_rfl) (by kernel_rfl) (fun _ _ _ h => h) (Or.inl ⟨by rfl, ?hy⟩) (by assumption) ?_
              case hy => intro w' hS; go_simp; first | done | with_reducible rfl
              refine put_at (some 10) rfl ?_
              simp only [Act.put, List.setIfInBounds_toArray, List.set_cons_succ, List.set_cons_zero]
              refine wpAnyH_done (by kernel_rfl) ?_ _
              go_wp2_with (refine at_dst (N := 20) rfl ?_; refine stop ?_)
              refine ⟨?_⟩
              refine at_op rfl fun K hK => ?_
              refine op_call (number4_calls A n c l _ (HR.out.below HL.out.below) HB.out (by omega) (by omega)) Try.func38 (by kernel_rfl) rfl rfl ?hargs ?_
              case hargs => (try simp only [List.map_toArray, List.map_cons, List.map_nil]); first | done | rfl
              rintro e w3 ⟨rfl, h⟩
              refine ⟨_, rfl, ?_⟩
              refine hK _ _ ?_
              clear hK K
              have HL := Asi.mk (HL.out.step (below_drew h))
              clear h
              go_wp2_with (refine at_dst (N := 23) rfl ?_; refine stop ?_)
              refine ⟨?_⟩
              refine at_op rfl fun K hK => ?_
              refine op_call (number4_calls A n c l _ (HR.out.below HL.out.below) HB.out (by omega) (by omega)) Try.func38 (by kernel_rfl) rfl rfl ?hargs ?_
              case hargs => (try simp only [List.map_toArray, List.map_cons, List.map_nil]); first | done | rfl
              rintro e w4 ⟨rfl, h⟩
              refine ⟨_, rfl, ?_⟩
              refine hK _ _ ?_
              clear hK K
              have HL := Asi.mk (HL.out.step (below_drew h))
              clear h
              go_wp2
              go_ret3
              exact ⟨_, rfl, HL.out.row_nil _ _⟩
            exact AllReadyH.nil
          exact AllReadyH.nil
        · rw [if_neg h3]
          have h3' : ¬ (n : Int) - 12 < (numB l : Nat) := by omega
          have hw8 := i64_small (x := 8 + ((numB l : Nat) : Int)) (by omega) (by omega)
          have hw12 := i64_small (x := ((numB l : Nat) : Int) + 12) (by omega) (by omega)
          have hb1 : (0 : Int) ≤ 8 + (numB l : Nat) := by omega
          have hb2 : 8 + ((numB l : Nat) : Int) ≤ n := by omega
          have hb3 : 8 + ((numB l : Nat) : Int) ≤ c := by omega
          have hb4 : (8 : Int) ≤ 8 + (numB l : Nat) := by omega
          have htn : (8 + ((numB l : Nat) : Int)).toNat = 8 + numB l := by omega
          by_cases h4 : numB (l.drop (8 + numB l)) = crc ((l.drop 8).take (numB l))
          · rw [if_pos h4]
            have h4' : ((numB (l.drop (8 + numB l)) : Nat) : Int) = (crc ((l.drop 8).take (numB l)) : Nat) := by omega
            go_enter Try.func24, Try.ntmps24
            go_wp2
            have HL := Asi.mk (Sts.start w).drew
            refine wp_region_held_drew (S := fun w' => Below w.heap.size w w') (by kernel_rfl) HL.out.below (fun hHeld => ?_)
            refine wpAnyH_take (i := 0) (oi := _) (v := ?_) rfl (by kernel_rfl) (by kernel_rfl) (by kernel_rfl) (fun _ _ _ h => h) (Or.inl ⟨by rfl, ?hy⟩) (by assumption) ?_
            case hy => intro w' hS; go_simp; first | done | with_reducible rfl
            refine put_at (some 11) rfl ?_
            simp only [Act.put, List.setIfInBounds_toArray, List.set_cons_succ, List.set_cons_zero]
            refine wpAnyH_take (i := 1) (oi := _) (v := ?_) rfl (by kernel_rfl) (by kernel_rfl) (by kernel_rfl) (fun _ _ _ h => h) (Or.inl ⟨by rfl, ?hy⟩) (by assumption) ?_
            case hy => intro w' hS; go_simp; first | done | with_reducible rfl
            refine put_at (some 12) rfl ?_
            simp only [Act.put, List.setIfInBounds_toArray, List.set_cons_succ, List.set_cons_zero]
            refine wpAnyH_take (i := 3) (oi := _) (v := ?_) rfl (by kernel_rfl) (by kernel_rfl) (by kernel_rfl) (fun _ _ _ h => h) (Or.inl ⟨by rfl, ?hy⟩) (by assumption) ?_
            case hy => intro w' hS; go_simp; first | done | with_reducible rfl
            refine put_at (some 14) rfl ?_
            simp only [Act.put, List.setIfInBounds_toArray, List.set_cons_succ, List.set_cons_zero]
            refine wpAnyH_take (i := 4) (oi := _) (v := ?_) rfl (by kernel_rfl) (by kernel_rfl) (by kernel_rfl) (fun _ _ _ h => h) (Or.inl ⟨by rfl, ?hy⟩) (by assumption) ?_
            case hy => intro w' hS; go_simp; first | done | with_reducible rfl
            refine put_at (some 15) rfl ?_
            simp only [Act.put, List.setIfInBounds_toArray, List.set_cons_succ, List.set_cons_zero]
            refine wpAnyH_ready (rs := [2]) (by kernel_rfl) (by simp) ?_
            refine AllReadyH.cons (o := _) rfl (fun K hK => ?_) ?_
            · refine st_op rfl ?_
              refine op_call (number4_calls _ (n - 4) (c - 4) (l.drop 4) _ (rd_from (HR.out.below HL.out.below) (by omega) hc) (HB.out.drop 4) (by omega) (by omega)) Try.func38 (by kernel_rfl) rfl rfl (by first | rfl | (simp only [List.map_toArray, List.map_cons, List.map_nil]; first | done | rfl)) ?_
              rintro e w1 ⟨rfl, h⟩
              refine ⟨_, rfl, ?_⟩
              have HL := Asi.mk (HL.out.step (below_drew h))
              clear h
              refine hK.out _ _ HL.out.below (fun hHeld => ?_)
              clear hK K
              refine put_at (some 13) rfl ?_
              simp only [Act.put, List.setIfInBounds_toArray, List.set_cons_succ, List.set_cons_zero]
              refine wpAnyH_ready (rs := [5]) (by kernel_rfl) (by simp) ?_
              refine AllReadyH.cons (o := _) rfl (fun K hK => ?_) ?_
              · refine st_op rfl ?_
                refine op_call (sum_calls A 4 c (l.take 4) _ (rd_to (HR.out.below HL.out.below) (by omega)) (HB.out.take 4) (by omega)) Try.func20 (by kernel_rfl) rfl rfl (by first | rfl | (simp only [List.map_toArray, List.map_cons, List.map_nil]; first | done | rfl)) ?_
                rintro e w2 ⟨rfl, rfl⟩
                refine ⟨_, rfl, ?_⟩
                refine hK.out _ _ HL.out.below (fun hHeld => ?_)
                clear hK K
                refine put_at (some 16) rfl ?_
                simp only [Act.put, List.setIfInBounds_toArray, List.set_cons_succ, List.set_cons_zero]
                refine wpAnyH_take (i := 6) (oi := _) (v := ?_) rfl (by kernel_rfl) (by kernel_rfl) (by kernel_rfl) (fun _ _ _ h => h) (Or.inl ⟨by rfl, ?hy⟩) (by assumption) ?_
                case hy => intro w' hS; go_simp; first | done | with_reducible rfl
                refine put_at (some 17) rfl ?_
                simp only [Act.put, List.setIfInBounds_toArray, List.set_cons_succ, List.set_cons_zero]
                refine wpAnyH_take (i := 7) (oi := _) (v := ?_) rfl (by kernel_rfl) (by kernel_rfl) (by kernel_rfl) (fun _ _ _ h => h) (Or.inl ⟨by rfl, ?hy⟩) (by assumption) ?_
                case hy => intro w' hS; go_simp; first | done | with_reducible rfl
                refine put_at (some 10) rfl ?_
                simp only [Act.put, List.setIfInBounds_toArray, List.set_cons_succ, List.set_cons_zero]
                refine wpAnyH_done (by kernel_rfl) ?_ _
                go_wp2_with (refine at_dst (N := 20) rfl ?_; refine stop ?_)
                refine ⟨?_⟩
                refine at_op rfl fun K hK => ?_
                refine op_call (number4_calls A n c l _ (HR.out.below HL.out.below) HB.out (by omega) (by omega)) Try.func38 (by kernel_rfl) rfl rfl ?hargs ?_
                case hargs => (try simp only [List.map_toArray, List.map_cons, List.map_nil]); first | done | rfl
                rintro e w3 ⟨rfl, h⟩
                refine ⟨_, rfl, ?_⟩
                refine hK _ _ ?_
                clear hK K
                have HL := Asi.mk (HL.out.step (below_drew h))
                clear h
                go_wp2_with (refine at_dst (N := 23) rfl ?_; refine stop ?_)
                refine ⟨?_⟩
                refine at_op rfl fun K hK => ?_
                refine op_call (number4_calls A n c l _ (HR.out.below HL.out.below) HB.out (by omega) (by omega)) Try.func38 (by kernel_rfl) rfl rfl ?hargs ?_
                case hargs => (try simp only [List.map_toArray, List.map_cons, List.map_nil]); first | done | rfl
                rintro e w4 ⟨rfl, h⟩
                refine ⟨_, rfl, ?_⟩
                refine hK _ _ ?_
                clear hK K
                have HL := Asi.mk (HL.out.step (below_drew h))
                clear h
                go_wp2
                have HLo := HL
                have HL := Asi.mk (Sts.start w4).drew
                refine wp_region_held_drew (S := fun w' => Below w4.heap.size w4 w') (by kernel_rfl) HL.out.below (fun hHeld => ?_)
                refine wpAnyH_take (i := 0) (oi := _) (v := ?_) rfl (by kernel_rfl) (by kernel_rfl) (by kernel_rfl) (fun _ _ _ h => h) (Or.inl ⟨by rfl, ?hy⟩) (by assumption) ?_
                case hy => intro w' hS; go_simp; first | done | with_reducible rfl
                refine put_at (some 30) rfl ?_
                simp only [Act.put, List.setIfInBounds_toArray, List.set_cons_succ, List.set_cons_zero]
                refine wpAnyH_take (i := 1) (oi := _) (v := ?_) rfl (by kernel_rfl) (by kernel_rfl) (by kernel_rfl) (fun _ _ _ h => h) (Or.inl ⟨by rfl, ?hy⟩) (by assumption) ?_
                case hy => intro w' hS; go_simp; first | done | with_reducible rfl
                refine put_at (some 31) rfl ?_
                simp only [Act.put, List.setIfInBounds_toArray, List.set_cons_succ, List.set_cons_zero]
                refine wpAnyH_take (i := 2) (oi := _) (v := ?_) rfl (by kernel_rfl) (by kernel_rfl) (by kernel_rfl) (fun _ _ _ h => h) (Or.inl ⟨by rfl, ?hy⟩) (by assumption) ?_
                case hy => intro w' hS; go_simp; first | done | with_reducible rfl
                refine put_at (some 32) rfl ?_
                simp only [Act.put, List.setIfInBounds_toArray, List.set_cons_succ, List.set_cons_zero]
                refine wpAnyH_take (i := 3) (oi := _) (v := ?_) rfl (by kernel_rfl) (by kernel_rfl) (by kernel_rfl) (fun _ _ _ h => h) (Or.inl ⟨by rfl, ?hy⟩) (by assumption) ?_
                case hy => intro w' hS; go_simp; first | done | with_reducible rfl
                refine put_at (some 33) rfl ?_
                simp only [Act.put, List.setIfInBounds_toArray, List.set_cons_succ, List.set_cons_zero]
                refine wpAnyH_take (i := 5) (oi := _) (v := ?_) rfl (by kernel_rfl) (by kernel_rfl) (by kernel_rfl) (fun _ _ _ h => h) (Or.inl ⟨by rfl, ?hy⟩) (by assumption) ?_
                case hy => intro w' hS; go_simp; first | done | with_reducible rfl
                refine put_at (some 35) rfl ?_
                simp only [Act.put, List.setIfInBounds_toArray, List.set_cons_succ, List.set_cons_zero]
                refine wpAnyH_take (i := 6) (oi := _) (v := ?_) rfl (by kernel_rfl) (by kernel_rfl) (by kernel_rfl) (fun _ _ _ h => h) (Or.inl ⟨by rfl, ?hy⟩) (by assumption) ?_
                case hy => intro w' hS; go_simp; first | done | with_reducible rfl
                refine put_at (some 36) rfl ?_
                simp only [Act.put, List.setIfInBounds_toArray, List.set_cons_succ, List.set_cons_zero]
                refine wpAnyH_take (i := 7) (oi := _) (v := ?_) rfl (by kernel_rfl) (by kernel_rfl) (by kernel_rfl) (fun _ _ _ h => h) (Or.inl ⟨by rfl, ?hy⟩) (by assumption) ?_
                case hy => intro w' hS; go_simp; first | done | with_reducible rfl
                refine put_at (some 37) rfl ?_
                simp only [Act.put, List.setIfInBounds_toArray, List.set_cons_succ, List.set_cons_zero]
                refine wpAnyH_take (i := 8) (oi := _) (v := ?_) rfl (by kernel_rfl) (by kernel_rfl) (by kernel_rfl) (fun _ _ _ h => h) (Or.inl ⟨by rfl, ?hy⟩) (by assumption) ?_
                case hy => intro w' hS; go_simp; first | done | with_reducible rfl
                refine put_at (some 38) rfl ?_
                simp only [Act.put, List.setIfInBounds_toArray, List.set_cons_succ, List.set_cons_zero]
                refine wpAnyH_ready (rs := [4]) (by kernel_rfl) (by simp) ?_
                refine AllReadyH.cons (o := _) rfl (fun K hK => ?_) ?_
                · refine st_op rfl ?_
                  refine op_call (number4_calls _ (n - (8 + numB l)) (c - (8 + numB l)) (l.drop (8 + numB l)) _ (rd_from ((HR.out.below HLo.out.below).below HL.out.below) (by omega) hc) (HB.out.drop _) (by omega) (by omega)) Try.func38 (by kernel_rfl) rfl rfl (by first | rfl | (simp only [List.map_toArray, List.map_cons, List.map_nil]; first | done | rfl)) ?_
                  rintro e w5 ⟨rfl, h⟩
                  refine ⟨_, rfl, ?_⟩
                  have HL := Asi.mk (HL.out.step (below_drew h))
                  clear h
                  refine hK.out _ _ HL.out.below (fun hHeld => ?_)
                  clear hK K
                  refine put_at (some 34) rfl ?_
                  simp only [Act.put, List.setIfInBounds_toArray, List.set_cons_succ, List.set_cons_zero]
                  refine wpAnyH_ready (rs := [9]) (by kernel_rfl) (by simp) ?_
                  refine AllReadyH.cons (o := _) rfl (fun K hK => ?_) ?_
                  · refine st_op rfl ?_
                    refine op_call (sum_calls _ (numB l) (c - 8) ((l.drop 8).take (numB l)) _ (rd_mid ((HR.out.below HLo.out.below).below HL.out.below) (by omega) hc) ((HB.out.drop _).take _) (by omega)) Try.func20 (by kernel_rfl) rfl rfl (by first | rfl | (simp only [List.map_toArray, List.map_cons, List.map_nil]; first | done | rfl)) ?_
                    rintro e w6 ⟨rfl, rfl⟩
                    refine ⟨_, rfl, ?_⟩
                    refine hK.out _ _ HL.out.below (fun hHeld => ?_)
                    clear hK K
                    refine put_at (some 39) rfl ?_
                    simp only [Act.put, List.setIfInBounds_toArray, List.set_cons_succ, List.set_cons_zero]
                    refine wpAnyH_take (i := 10) (oi := _) (v := ?_) rfl (by kernel_rfl) (by kernel_rfl) (by kernel_rfl) (fun _ _ _ h => h) (Or.inl ⟨by rfl, ?hy⟩) (by assumption) ?_
                    case hy => intro w' hS; go_simp; first | done | with_reducible rfl
                    refine put_at (some 40) rfl ?_
                    simp only [Act.put, List.setIfInBounds_toArray, List.set_cons_succ, List.set_cons_zero]
                    refine wpAnyH_done (by kernel_rfl) ?_ _
                    have HL := Asi.mk (HLo.out.step HL.out.below)
                    go_wp2_with (refine at_dst (N := 41) rfl ?_; refine stop ?_)
                    refine ⟨?_⟩
                    refine at_op rfl fun K hK => ?_
                    refine op_lit HL.out 5 1 0 [] (by first | (go_simp; done) | (go_simp; rfl) | (go_simp; simp [ints]; done)) (by first | rfl | simp [ints]) (by omega) ?_
                    intro v41 w41 h
                    refine hK _ _ ?_
                    clear hK K
                    have HL1 := Asi.mk h
                    clear h
                    have HM := Asi.mk (show Rd w41 1 (Option.map (fun x : Addr => { block := x.block, off := x.off + 8 }) A) (numB l) (ints .u8 ((l.drop 8).take (numB l))) from by have q := rd_mid (m := 8) (k := numB l) (HR.out.below HL1.out.below) (by omega) hc; rw [if_neg (by omega)] at q; simpa [Addr.add] using q)
                    go_wp2_with (refine at_dst (N := 46) rfl ?_; refine stop ?_)
                    refine ⟨?_⟩
                    refine at_op rfl fun K hK => ?_
                    refine op_append 1 1 v41 0 [] 5 HL1.out (.tmp 41) (.tmp 45) 22 _ rfl Try.underlying22 info5 rfl (by omega) rfl (Option.map (fun x : Addr => { block := x.block, off := x.off + 8 }) A) (numB l) (c - 8) (ints .u8 ((l.drop 8).take (numB l))) rfl HM.out (ints_one _ _) (by omega) (by omega) ?_
                    intro v46 w46 h
                    refine hK _ _ ?_
                    clear hK K
                    have HL2 := Asi.mk (sts_zadd h)
                    clear h HL1 HM
                    go_wp2
                    go_ret3
                    have hlen : ((l.drop 8).take (numB l)).length = numB l := by rw [List.length_take, List.length_drop]; omega
                    refine ⟨_, rfl, ?_⟩
                    simp only [hlen]
                    exact HL2.out
                  exact AllReadyH.nil
                exact AllReadyH.nil
              exact AllReadyH.nil
            exact AllReadyH.nil
          · rw [if_neg h4]
            have h4' : ¬ ((numB (l.drop (8 + numB l)) : Nat) : Int) = (crc ((l.drop 8).take (numB l)) : Nat) := by omega
            go_enter Try.func24, Try.ntmps24
            go_wp2
            have HL := Asi.mk (Sts.start w).drew
            refine wp_region_held_drew (S := fun w' => Below w.heap.size w w') (by kernel_rfl) HL.out.below (fun hHeld => ?_)
            refine wpAnyH_take (i := 0) (oi := _) (v := ?_) rfl (by kernel_rfl) (by kernel_rfl) (by kernel_rfl) (fun _ _ _ h => h) (Or.inl ⟨by rfl, ?hy⟩) (by assumption) ?_
            case hy => intro w' hS; go_simp; first | done | with_reducible rfl
            refine put_at (some 11) rfl ?_
            simp only [Act.put, List.setIfInBounds_toArray, List.set_cons_succ, List.set_cons_zero]
            refine wpAnyH_take (i := 1) (oi := _) (v := ?_) rfl (by kernel_rfl) (by kernel_rfl) (by kernel_rfl) (fun _ _ _ h => h) (Or.inl ⟨by rfl, ?hy⟩) (by assumption) ?_
            case hy => intro w' hS; go_simp; first | done | with_reducible rfl
            refine put_at (some 12) rfl ?_
            simp only [Act.put, List.setIfInBounds_toArray, List.set_cons_succ, List.set_cons_zero]
            refine wpAnyH_take (i := 3) (oi := _) (v := ?_) rfl (by kernel_rfl) (by kernel_rfl) (by kernel_rfl) (fun _ _ _ h => h) (Or.inl ⟨by rfl, ?hy⟩) (by assumption) ?_
            case hy => intro w' hS; go_simp; first | done | with_reducible rfl
            refine put_at (some 14) rfl ?_
            simp only [Act.put, List.setIfInBounds_toArray, List.set_cons_succ, List.set_cons_zero]
            refine wpAnyH_take (i := 4) (oi := _) (v := ?_) rfl (by kernel_rfl) (by kernel_rfl) (by kernel_rfl) (fun _ _ _ h => h) (Or.inl ⟨by rfl, ?hy⟩) (by assumption) ?_
            case hy => intro w' hS; go_simp; first | done | with_reducible rfl
            refine put_at (some 15) rfl ?_
            simp only [Act.put, List.setIfInBounds_toArray, List.set_cons_succ, List.set_cons_zero]
            refine wpAnyH_ready (rs := [2]) (by kernel_rfl) (by simp) ?_
            refine AllReadyH.cons (o := _) rfl (fun K hK => ?_) ?_
            · refine st_op rfl ?_
              refine op_call (number4_calls _ (n - 4) (c - 4) (l.drop 4) _ (rd_from (HR.out.below HL.out.below) (by omega) hc) (HB.out.drop 4) (by omega) (by omega)) Try.func38 (by kernel_rfl) rfl rfl (by first | rfl | (simp only [List.map_toArray, List.map_cons, List.map_nil]; first | done | rfl)) ?_
              rintro e w1 ⟨rfl, h⟩
              refine ⟨_, rfl, ?_⟩
              have HL := Asi.mk (HL.out.step (below_drew h))
              clear h
              refine hK.out _ _ HL.out.below (fun hHeld => ?_)
              clear hK K
              refine put_at (some 13) rfl ?_
              simp only [Act.put, List.setIfInBounds_toArray, List.set_cons_succ, List.set_cons_zero]
              refine wpAnyH_ready (rs := [5]) (by kernel_rfl) (by simp) ?_
              refine AllReadyH.cons (o := _) rfl (fun K hK => ?_) ?_
              · refine st_op rfl ?_
                refine op_call (sum_calls A 4 c (l.take 4) _ (rd_to (HR.out.below HL.out.below) (by omega)) (HB.out.take 4) (by omega)) Try.func20 (by kernel_rfl) rfl rfl (by first | rfl | (simp only [List.map_toArray, List.map_cons, List.map_nil]; first | done | rfl)) ?_
                rintro e w2 ⟨rfl, rfl⟩
                refine ⟨_, rfl, ?_⟩
                refine hK.out _ _ HL.out.below (fun hHeld => ?_)
                clear hK K
                refine put_at (some 16) rfl ?_
                simp only [Act.put, List.setIfInBounds_toArray, List.set_cons_succ, List.set_cons_zero]
                refine wpAnyH_take (i := 6) (oi := _) (v := ?_) rfl (by kernel_rfl) (by kernel_rfl) (by kernel_rfl) (fun _ _ _ h => h) (Or.inl ⟨by rfl, ?hy⟩) (by assumption) ?_
                case hy => intro w' hS; go_simp; first | done | with_reducible rfl
                refine put_at (some 17) rfl ?_
                simp only [Act.put, List.setIfInBounds_toArray, List.set_cons_succ, List.set_cons_zero]
                refine wpAnyH_take (i := 7) (oi := _) (v := ?_) rfl (by kernel_rfl) (by kernel_rfl) (by kernel_rfl) (fun _ _ _ h => h) (Or.inl ⟨by rfl, ?hy⟩) (by assumption) ?_
                case hy => intro w' hS; go_simp; first | done | with_reducible rfl
                refine put_at (some 10) rfl ?_
                simp only [Act.put, List.setIfInBounds_toArray, List.set_cons_succ, List.set_cons_zero]
                refine wpAnyH_done (by kernel_rfl) ?_ _
                go_wp2_with (refine at_dst (N := 20) rfl ?_; refine stop ?_)
                refine ⟨?_⟩
                refine at_op rfl fun K hK => ?_
                refine op_call (number4_calls A n c l _ (HR.out.below HL.out.below) HB.out (by omega) (by omega)) Try.func38 (by kernel_rfl) rfl rfl ?hargs ?_
                case hargs => (try simp only [List.map_toArray, List.map_cons, List.map_nil]); first | done | rfl
                rintro e w3 ⟨rfl, h⟩
                refine ⟨_, rfl, ?_⟩
                refine hK _ _ ?_
                clear hK K
                have HL := Asi.mk (HL.out.step (below_drew h))
                clear h
                go_wp2_with (refine at_dst (N := 23) rfl ?_; refine stop ?_)
                refine ⟨?_⟩
                refine at_op rfl fun K hK => ?_
                refine op_call (number4_calls A n c l _ (HR.out.below HL.out.below) HB.out (by omega) (by omega)) Try.func38 (by kernel_rfl) rfl rfl ?hargs ?_
                case hargs => (try simp only [List.map_toArray, List.map_cons, List.map_nil]); first | done | rfl
                rintro e w4 ⟨rfl, h⟩
                refine ⟨_, rfl, ?_⟩
                refine hK _ _ ?_
                clear hK K
                have HL := Asi.mk (HL.out.step (below_drew h))
                clear h
                go_wp2
                have HLo := HL
                have HL := Asi.mk (Sts.start w4).drew
                refine wp_region_held_drew (S := fun w' => Below w4.heap.size w4 w') (by kernel_rfl) HL.out.below (fun hHeld => ?_)
                refine wpAnyH_take (i := 0) (oi := _) (v := ?_) rfl (by kernel_rfl) (by kernel_rfl) (by kernel_rfl) (fun _ _ _ h => h) (Or.inl ⟨by rfl, ?hy⟩) (by assumption) ?_
                case hy => intro w' hS; go_simp; first | done | with_reducible rfl
                refine put_at (some 30) rfl ?_
                simp only [Act.put, List.setIfInBounds_toArray, List.set_cons_succ, List.set_cons_zero]
                refine wpAnyH_take (i := 1) (oi := _) (v := ?_) rfl (by kernel_rfl) (by kernel_rfl) (by kernel_rfl) (fun _ _ _ h => h) (Or.inl ⟨by rfl, ?hy⟩) (by assumption) ?_
                case hy => intro w' hS; go_simp; first | done | with_reducible rfl
                refine put_at (some 31) rfl ?_
                simp only [Act.put, List.setIfInBounds_toArray, List.set_cons_succ, List.set_cons_zero]
                refine wpAnyH_take (i := 2) (oi := _) (v := ?_) rfl (by kernel_rfl) (by kernel_rfl) (by kernel_rfl) (fun _ _ _ h => h) (Or.inl ⟨by rfl, ?hy⟩) (by assumption) ?_
                case hy => intro w' hS; go_simp; first | done | with_reducible rfl
                refine put_at (some 32) rfl ?_
                simp only [Act.put, List.setIfInBounds_toArray, List.set_cons_succ, List.set_cons_zero]
                refine wpAnyH_take (i := 3) (oi := _) (v := ?_) rfl (by kernel_rfl) (by kernel_rfl) (by kernel_rfl) (fun _ _ _ h => h) (Or.inl ⟨by rfl, ?hy⟩) (by assumption) ?_
                case hy => intro w' hS; go_simp; first | done | with_reducible rfl
                refine put_at (some 33) rfl ?_
                simp only [Act.put, List.setIfInBounds_toArray, List.set_cons_succ, List.set_cons_zero]
                refine wpAnyH_take (i := 5) (oi := _) (v := ?_) rfl (by kernel_rfl) (by kernel_rfl) (by kernel_rfl) (fun _ _ _ h => h) (Or.inl ⟨by rfl, ?hy⟩) (by assumption) ?_
                case hy => intro w' hS; go_simp; first | done | with_reducible rfl
                refine put_at (some 35) rfl ?_
                simp only [Act.put, List.setIfInBounds_toArray, List.set_cons_succ, List.set_cons_zero]
                refine wpAnyH_take (i := 6) (oi := _) (v := ?_) rfl (by kernel_rfl) (by kernel_rfl) (by kernel_rfl) (fun _ _ _ h => h) (Or.inl ⟨by rfl, ?hy⟩) (by assumption) ?_
                case hy => intro w' hS; go_simp; first | done | with_reducible rfl
                refine put_at (some 36) rfl ?_
                simp only [Act.put, List.setIfInBounds_toArray, List.set_cons_succ, List.set_cons_zero]
                refine wpAnyH_take (i := 7) (oi := _) (v := ?_) rfl (by kernel_rfl) (by kernel_rfl) (by kernel_rfl) (fun _ _ _ h => h) (Or.inl ⟨by rfl, ?hy⟩) (by assumption) ?_
                case hy => intro w' hS; go_simp; first | done | with_reducible rfl
                refine put_at (some 37) rfl ?_
                simp only [Act.put, List.setIfInBounds_toArray, List.set_cons_succ, List.set_cons_zero]
                refine wpAnyH_take (i := 8) (oi := _) (v := ?_) rfl (by kernel_rfl) (by kernel_rfl) (by kernel_rfl) (fun _ _ _ h => h) (Or.inl ⟨by rfl, ?hy⟩) (by assumption) ?_
                case hy => intro w' hS; go_simp; first | done | with_reducible rfl
                refine put_at (some 38) rfl ?_
                simp only [Act.put, List.setIfInBounds_toArray, List.set_cons_succ, List.set_cons_zero]
                refine wpAnyH_ready (rs := [4]) (by kernel_rfl) (by simp) ?_
                refine AllReadyH.cons (o := _) rfl (fun K hK => ?_) ?_
                · refine st_op rfl ?_
                  refine op_call (number4_calls _ (n - (8 + numB l)) (c - (8 + numB l)) (l.drop (8 + numB l)) _ (rd_from ((HR.out.below HLo.out.below).below HL.out.below) (by omega) hc) (HB.out.drop _) (by omega) (by omega)) Try.func38 (by kernel_rfl) rfl rfl (by first | rfl | (simp only [List.map_toArray, List.map_cons, List.map_nil]; first | done | rfl)) ?_
                  rintro e w5 ⟨rfl, h⟩
                  refine ⟨_, rfl, ?_⟩
                  have HL := Asi.mk (HL.out.step (below_drew h))
                  clear h
                  refine hK.out _ _ HL.out.below (fun hHeld => ?_)
                  clear hK K
                  refine put_at (some 34) rfl ?_
                  simp only [Act.put, List.setIfInBounds_toArray, List.set_cons_succ, List.set_cons_zero]
                  refine wpAnyH_ready (rs := [9]) (by kernel_rfl) (by simp) ?_
                  refine AllReadyH.cons (o := _) rfl (fun K hK => ?_) ?_
                  · refine st_op rfl ?_
                    refine op_call (sum_calls _ (numB l) (c - 8) ((l.drop 8).take (numB l)) _ (rd_mid ((HR.out.below HLo.out.below).below HL.out.below) (by omega) hc) ((HB.out.drop _).take _) (by omega)) Try.func20 (by kernel_rfl) rfl rfl (by first | rfl | (simp only [List.map_toArray, List.map_cons, List.map_nil]; first | done | rfl)) ?_
                    rintro e w6 ⟨rfl, rfl⟩
                    refine ⟨_, rfl, ?_⟩
                    refine hK.out _ _ HL.out.below (fun hHeld => ?_)
                    clear hK K
                    refine put_at (some 39) rfl ?_
                    simp only [Act.put, List.setIfInBounds_toArray, List.set_cons_succ, List.set_cons_zero]
                    refine wpAnyH_take (i := 10) (oi := _) (v := ?_) rfl (by kernel_rfl) (by kernel_rfl) (by kernel_rfl) (fun _ _ _ h => h) (Or.inl ⟨by rfl, ?hy⟩) (by assumption) ?_
                    case hy => intro w' hS; go_simp; first | done | with_reducible rfl
                    refine put_at (some 40) rfl ?_
                    simp only [Act.put, List.setIfInBounds_toArray, List.set_cons_succ, List.set_cons_zero]
                    refine wpAnyH_done (by kernel_rfl) ?_ _
                    have HL := Asi.mk (HLo.out.step HL.out.below)
                    go_wp2
                    go_ret3
                    exact ⟨_, rfl, HL.out.row_nil _ _⟩
                  exact AllReadyH.nil
                exact AllReadyH.nil
              exact AllReadyH.nil
            exact AllReadyH.nil
    · rw [if_neg h1]
      have h1' : ¬ ((numB (l.drop 4) : Nat) : Int) = (crc (l.take 4) : Nat) := by omega
      go_enter Try.func24, Try.ntmps24
      go_wp2
      have HL := Asi.mk (Sts.start w).drew
      refine wp_region_held_drew (S := fun w' => Below w.heap.size w w') (by kernel_rfl) HL.out.below (fun hHeld => ?_)
      refine wpAnyH_take (i := 0) (oi := _) (v := ?_) rfl (by kernel_rfl) (by kernel_rfl) (by kernel_rfl) (fun _ _ _ h => h) (Or.inl ⟨by rfl, ?hy⟩) (by assumption) ?_
      case hy => intro w' hS; go_simp; first | done | with_reducible rfl
      refine put_at (some 11) rfl ?_
      simp only [Act.put, List.setIfInBounds_toArray, List.set_cons_succ, List.set_cons_zero]
      refine wpAnyH_take (i := 1) (oi := _) (v := ?_) rfl (by kernel_rfl) (by kernel_rfl) (by kernel_rfl) (fun _ _ _ h => h) (Or.inl ⟨by rfl, ?hy⟩) (by assumption) ?_
      case hy => intro w' hS; go_simp; first | done | with_reducible rfl
      refine put_at (some 12) rfl ?_
      simp only [Act.put, List.setIfInBounds_toArray, List.set_cons_succ, List.set_cons_zero]
      refine wpAnyH_take (i := 3) (oi := _) (v := ?_) rfl (by kernel_rfl) (by kernel_rfl) (by kernel_rfl) (fun _ _ _ h => h) (Or.inl ⟨by rfl, ?hy⟩) (by assumption) ?_
      case hy => intro w' hS; go_simp; first | done | with_reducible rfl
      refine put_at (some 14) rfl ?_
      simp only [Act.put, List.setIfInBounds_toArray, List.set_cons_succ, List.set_cons_zero]
      refine wpAnyH_take (i := 4) (oi := _) (v := ?_) rfl (by kernel_rfl) (by kernel_rfl) (by kernel_rfl) (fun _ _ _ h => h) (Or.inl ⟨by rfl, ?hy⟩) (by assumption) ?_
      case hy => intro w' hS; go_simp; first | done | with_reducible rfl
      refine put_at (some 15) rfl ?_
      simp only [Act.put, List.setIfInBounds_toArray, List.set_cons_succ, List.set_cons_zero]
      refine wpAnyH_ready (rs := [2]) (by kernel_rfl) (by simp) ?_
      refine AllReadyH.cons (o := _) rfl (fun K hK => ?_) ?_
      · refine st_op rfl ?_
        refine op_call (number4_calls _ (n - 4) (c - 4) (l.drop 4) _ (rd_from (HR.out.below HL.out.below) (by omega) hc) (HB.out.drop 4) (by omega) (by omega)) Try.func38 (by kernel_rfl) rfl rfl (by first | rfl | (simp only [List.map_toArray, List.map_cons, List.map_nil]; first | done | rfl)) ?_
        rintro e w1 ⟨rfl, h⟩
        refine ⟨_, rfl, ?_⟩
        have HL := Asi.mk (HL.out.step (below_drew h))
        clear h
        refine hK.out _ _ HL.out.below (fun hHeld => ?_)
        clear hK K
        refine put_at (some 13) rfl ?_
        simp only [Act.put, List.setIfInBounds_toArray, List.set_cons_succ, List.set_cons_zero]
        refine wpAnyH_ready (rs := [5]) (by kernel_rfl) (by simp) ?_
        refine AllReadyH.cons (o := _) rfl (fun K hK => ?_) ?_
        · refine st_op rfl ?_
          refine op_call (sum_calls A 4 c (l.take 4) _ (rd_to (HR.out.below HL.out.below) (by omega)) (HB.out.take 4) (by omega)) Try.func20 (by kernel_rfl) rfl rfl (by first | rfl | (simp only [List.map_toArray, List.map_cons, List.map_nil]; first | done | rfl)) ?_
          rintro e w2 ⟨rfl, rfl⟩
          refine ⟨_, rfl, ?_⟩
          refine hK.out _ _ HL.out.below (fun hHeld => ?_)
          clear hK K
          refine put_at (some 16) rfl ?_
          simp only [Act.put, List.setIfInBounds_toArray, List.set_cons_succ, List.set_cons_zero]
          refine wpAnyH_take (i := 6) (oi := _) (v := ?_) rfl (by kernel_rfl) (by kernel_rfl) (by kernel_rfl) (fun _ _ _ h => h) (Or.inl ⟨by rfl, ?hy⟩) (by assumption) ?_
          case hy => intro w' hS; go_simp; first | done | with_reducible rfl
          refine put_at (some 17) rfl ?_
          simp only [Act.put, List.setIfInBounds_toArray, List.set_cons_succ, List.set_cons_zero]
          refine wpAnyH_take (i := 7) (oi := _) (v := ?_) rfl (by kernel_rfl) (by kernel_rfl) (by kernel_rfl) (fun _ _ _ h => h) (Or.inl ⟨by rfl, ?hy⟩) (by assumption) ?_
          case hy => intro w' hS; go_simp; first | done | with_reducible rfl
          refine put_at (some 10) rfl ?_
          simp only [Act.put, List.setIfInBounds_toArray, List.set_cons_succ, List.set_cons_zero]
          refine wpAnyH_done (by kernel_rfl) ?_ _
          go_wp2
          go_ret3
          exact ⟨_, rfl, HL.out.row_nil _ _⟩
        exact AllReadyH.nil
      exact AllReadyH.nil
end Go.Proofs.Ytahecnlglcfddaa
