/- What numbers read as: the reader's, the reference's; readers. -/
import Derived.Test.YtahecnlglcfddaaOctetB
import Derived.Deep.QuietTactic
set_option linter.unusedVariables false
set_option linter.unusedSimpArgs false
namespace Go.Proofs.Ytahecnlglcfddaa
open Go.RowKit Go.Sep

/-- The number that bytes begin with, how many bytes it has, what is wrong: i bytes were read, they come to acc. -/
def dec : Nat → List Int → Nat → Nat → Nat × Nat × Nat
  | 0, _, _, _ => (0, 0, 11)
  | _ + 1, [], _, _ => (0, 0, 10)
  | f + 1, c :: l, i, acc => if i = 9 ∧ 1 < c.toNat then (0, 0, 11) else if c.toNat < 128 then (if c.toNat = 0 ∧ 0 < i then (0, 0, 11) else (acc + c.toNat % 128 * 128 ^ i, i + 1, 0)) else dec f l (i + 1) (acc + c.toNat % 128 * 128 ^ i)
def uintN (l : List Int) : Nat × Nat × Nat := dec 10 l 0 0

/-- A reader: its three cells. -/
structure Reads (w : World) (g : Nat) (A : Option Addr) (n c k : Nat) (l : List Int) : Prop where
  made : w.cell? ⟨g, 0, none⟩ = some (.bool true)
  b : w.cell? ⟨g, 1, none⟩ = some (.slice A n c)
  pos : w.cell? ⟨g, 2, none⟩ = some (.int .i64 k)
  rd : Rd w 1 A n (ints .u8 l)
  le : k ≤ n

theorem Reads.drewN {w : World} {g : Nat} {A : Option Addr} {n c k : Nat} {l : List Int} (h : Reads w g A n c k l) (m : Nat) : Reads (w.drewN m) g A n c k l := ⟨h.made, h.b, h.pos, h.rd.drewN m, h.le⟩
theorem drewN_drewN (w : World) (m n : Nat) : (w.drewN m).drewN n = w.drewN (m + n) := by simp [World.drewN, Nat.add_assoc]
theorem drewN_of {w W : World} {m : Nat} (h : W = w.drewN m) (n : Nat) : W.drewN n = w.drewN (m + n) := by rw [h, drewN_drewN]
theorem i64_small {x : Int} (h : -9223372036854775808 ≤ x) (h2 : x < 9223372036854775808) : IntKind.i64.wrap x = x := by rw [IntKind.wrap_i64]; omega

theorem pow128 (i : Nat) : 128 ^ i = 2 ^ (7 * i) := by rw [show (128 : Nat) = 2 ^ 7 by rfl, ← Nat.pow_mul]
theorem and127 (z : Nat) (hz : z < 256) : Go.bits .and .u8 (z : Int) 127 = ((z % 128 : Nat) : Int) := by
  rw [show (127 : Int) = ((127 : Nat) : Int) from rfl, and8 _ _ hz (by omega), show (127 : Nat) = 2 ^ 7 - 1 by rfl, Nat.and_two_pow_sub_one_eq_mod]
theorem and128 (z : Nat) (hz : z < 256) : z &&& 128 = if z < 128 then 0 else 128 := by
  have : ∀ a < 256, a &&& 128 = if a < 128 then 0 else 128 := by decide +kernel
  exact this z hz
theorem and128a (z : Nat) (hz : z < 128) : Go.bits .and .u8 (z : Int) 128 = 0 := by
  rw [show (128 : Int) = ((128 : Nat) : Int) from rfl, and8 _ _ (by omega) (by omega), and128 z (by omega), if_pos hz]; rfl
theorem and128b (z : Nat) (hz : z < 256) (h : ¬ z < 128) : Go.bits .and .u8 (z : Int) 128 = 128 := by
  rw [show (128 : Int) = ((128 : Nat) : Int) from rfl, and8 _ _ (by omega) (by omega), and128 z (by omega), if_neg h]
theorem wrap_u64 (n : Nat) (h : n < 18446744073709551616) : IntKind.u64.wrap (n : Int) = n := wrap_nat .u64 rfl n h
theorem number_fits (acc z i : Nat) (hacc : acc < 128 ^ i) (h : i < 9 ∨ (i = 9 ∧ z ≤ 1)) : z % 128 * 128 ^ i + acc < 18446744073709551616 := by
  rcases h with h | ⟨rfl, h⟩
  · have h1 : z % 128 * 128 ^ i + acc < 128 * 128 ^ i := by
      have h1 : z % 128 * 128 ^ i ≤ 127 * 128 ^ i := Nat.mul_le_mul_right _ (by omega)
      omega
    have h2 : 128 * 128 ^ i ≤ 128 * 128 ^ 8 := Nat.mul_le_mul_left _ (Nat.pow_le_pow_right (by omega) (by omega))
    have h3 : 128 * 128 ^ 8 ≤ 18446744073709551616 := by decide
    omega
  · have h1 : z % 128 * 128 ^ 9 ≤ 1 * 128 ^ 9 := Nat.mul_le_mul_right _ (by omega)
    have h3 : 128 ^ 9 + 128 ^ 9 ≤ 18446744073709551616 := by decide
    omega
theorem number_or (acc z i : Nat) (hz : z < 256) (hacc : acc < 128 ^ i) (h : i < 9 ∨ (i = 9 ∧ z ≤ 1)) :
    Go.bits .or .u64 (acc : Int) (IntKind.u64.wrap (IntKind.u64.wrap (Go.bits .and .u8 (z : Int) 127) * 2 ^ (7 * i))) = ((acc + z % 128 * 128 ^ i : Nat) : Int) := by
  have hf := number_fits acc z i hacc h
  rw [and127 z hz, wrap_u64 _ (by omega), show ((z % 128 : Nat) : Int) * 2 ^ (7 * i) = ((z % 128 * 128 ^ i : Nat) : Int) by rw [pow128]; simp, wrap_u64 _ (by omega), or64 _ _ (by omega) (by omega)]
  rw [Nat.or_comm, pow128, Nat.mul_comm (z % 128), ← Nat.two_pow_add_eq_or_of_lt (by rw [← pow128]; exact hacc), Nat.add_comm]
theorem drop_cons (l : List Int) (k i : Nat) (h : k + i < l.length) {z : Int} (hz : l[k + i] = z) : (l.drop k).drop i = z :: (l.drop k).drop (i + 1) := by
  rw [List.drop_drop, List.drop_drop, List.drop_eq_getElem_cons h, hz, Nat.add_assoc]

set_option maxHeartbeats 1000000 in
theorem number_calls (g : Nat) (A : Option Addr) (n c k : Nat) (l : List Int) (w : World) (H : Reads w g A n c k l) (hb : Byts l) (hn : n ≤ 100000000) :
    Calls Try.prog 40 #[.pointer (some ⟨g, 0, none⟩)] w fun e w' => (∃ m, w' = w.drewN m) ∧ e = .returned (.tuple #[.int .u64 (uintN (l.drop k)).1, .int .i64 (uintN (l.drop k)).2.1, .int .i64 (uintN (l.drop k)).2.2]) := by
  have HB := Asi.mk hb
  have hll := rd_len H.rd
  clear hb
  go_enter Try.func40, Try.ntmps40
  go_wp2
  go_loopg [5, 8] 10 (fun gg x y wr => ∃ (i acc m : Nat), i ≤ 10 ∧ gg = 10 - i ∧ wr = w.drewN m ∧ y = .int .i64 i ∧ x = .int .u64 acc ∧ Asi (acc < 128 ^ i) ∧ Asi (uintN (l.drop k) = dec (10 - i) ((l.drop k).drop i) i acc))
  case atStart => exact ⟨0, 0, 0, Nat.zero_le _, rfl, rfl, rfl, rfl, Asi.mk (by simp), Asi.mk rfl⟩
  case round =>
    obtain ⟨i, acc, m, hi, rfl, hwr, rfl, rfl, HA, HD⟩ := hrel
    have hR := H.drewN m
    rw [← hwr] at hR
    have HW := Asi.mk hwr
    clear hwr H
    obtain ⟨hc0, hc1, hc2, hrd, hle⟩ := hR
    have HR := Asi.mk hrd
    clear hrd
    have hwr1 := i64_small (x := (k : Int) + i) (by omega) (by omega)
    by_cases hlt : i < 10
    · by_cases hend : n ≤ k + i
      · have hend' : (n : Int) ≤ k + i := by omega
        have hdr : (l.drop k).drop i = [] := by rw [List.drop_drop]; exact List.drop_eq_nil_of_le (by omega)
        rw [hdr, show 10 - i = (9 - i) + 1 by omega, dec] at HD
        have HD := Asi.mk HD.out
        go_wp2
        go_quiet (fail)
        go_wp2
        go_ret3
        rw [HD.out, HW.out]
        exact ⟨⟨_, drewN_drewN _ _ _⟩, rfl⟩
      · have hend' : ¬ (n : Int) ≤ k + i := by omega
        have hin : (0 : Int) ≤ (k : Int) + i := by omega
        have hin2 : (k : Int) + i < n := by omega
        obtain ⟨ad, e, hcell⟩ := rd_at HR.out (i := k + i) (by omega)
        subst e
        obtain ⟨z, hz, hz2⟩ := HB.out.get (k + i) (by omega)
        rw [hz] at hcell
        have hdr := drop_cons l k i (by omega) hz
        rw [hdr, show 10 - i = (9 - i) + 1 by omega, dec] at HD
        simp only [Int.toNat_natCast] at HD
        clear hdr hz
        have htn : ((k : Int) + i).toNat = k + i := by omega
        by_cases h9 : i = 9
        · have h9b : ((i : Int) == 9) = true := by simp [h9]
          by_cases h1 : 1 < z
          · have HD := Asi.mk (HD.out.trans (if_pos ⟨h9, h1⟩))
            have h1' : (1 : Int) < z := by omega
            clear h1 h9
            go_wp2
            go_quiet (fail)
            go_wp2
            go_quiet (fail)
            go_wp2
            go_ret3
            rw [HD.out, HW.out]
            refine ⟨⟨_, drewN_drewN _ _ _⟩, ?_⟩
            rfl
          · have HD := Asi.mk ((HD.out.trans (if_neg (fun h => h1 h.2))).trans (if_pos (by omega)))
            have h1' : ¬ (1 : Int) < z := by omega
            have ha := and128a z (by omega)
            have HQ := Asi.mk (number_or acc z i hz2 HA.out (.inr ⟨h9, by omega⟩))
            have hi0 : (0 : Int) < i := by omega
            by_cases hz0 : z = 0
            · have HD := Asi.mk (HD.out.trans (if_pos ⟨hz0, by omega⟩))
              have hzb : ((z : Int) == 0) = true := by simp [hz0]
              clear h1 h9 hz0
              go_wp2
              go_quiet (fail)
              go_wp2
              go_quiet (fail)
              go_wp2
              go_ret3
              rw [HD.out, HW.out]
              refine ⟨⟨_, drewN_drewN _ _ _⟩, ?_⟩
              rfl
            · have HD := Asi.mk (HD.out.trans (if_neg (fun h => hz0 h.1)))
              have hzb : ((z : Int) == 0) = false := by simp [hz0]
              clear h1 h9 hz0
              go_wp2
              go_quiet (fail)
              go_wp2
              go_quiet (fail)
              go_wp2
              go_ret3
              rw [HD.out, HW.out]
              refine ⟨⟨_, drewN_drewN _ _ _⟩, ?_⟩
              rw [← HQ.out]
              rfl
        · have h9b : ((i : Int) == 9) = false := by simp; omega
          have HD := Asi.mk (HD.out.trans (if_neg (fun h => h9 h.1)))
          have HQ := Asi.mk (number_or acc z i hz2 HA.out (.inl (by omega)))
          have HF := Asi.mk (number_fits acc z i HA.out (.inl (by omega)))
          by_cases h128 : z < 128
          · have HD := Asi.mk (HD.out.trans (if_pos h128))
            have ha := and128a z h128
            by_cases hz0 : z = 0
            · have hzb : ((z : Int) == 0) = true := by simp [hz0]
              by_cases hi0 : 0 < i
              · have HD := Asi.mk (HD.out.trans (if_pos ⟨hz0, hi0⟩))
                have hi0' : (0 : Int) < i := by omega
                clear hz0
                go_wp2
                go_quiet (fail)
                go_wp2
                go_quiet (fail)
                go_wp2
                go_ret3
                rw [HD.out, HW.out]
                refine ⟨⟨_, drewN_drewN _ _ _⟩, ?_⟩
                rfl
              · have HD := Asi.mk (HD.out.trans (if_neg (fun h => hi0 h.2)))
                have hi0' : ¬ (0 : Int) < i := by omega
                clear hz0
                go_wp2
                go_quiet (fail)
                go_wp2
                go_quiet (fail)
                go_wp2
                go_ret3
                rw [HD.out, HW.out]
                refine ⟨⟨_, drewN_drewN _ _ _⟩, ?_⟩
                rw [← HQ.out]
                rfl
            · have hzb : ((z : Int) == 0) = false := by simp [hz0]
              have HD := Asi.mk (HD.out.trans (if_neg (fun h => hz0 h.1)))
              clear hz0
              go_wp2
              go_quiet (fail)
              go_wp2
              go_quiet (fail)
              go_wp2
              go_ret3
              rw [HD.out, HW.out]
              refine ⟨⟨_, drewN_drewN _ _ _⟩, ?_⟩
              rw [← HQ.out]
              rfl
          · have HD := Asi.mk (HD.out.trans (if_neg h128))
            have ha := and128b z hz2 h128
            have HQ := HQ.out
            go_wp2
            go_quiet (fail)
            go_wp2
            go_quiet (fail)
            go_wp2
            go_roundg (10 - (i + 1))
            case measure => omega
            case rel =>
              refine ⟨i + 1, acc + z % 128 * 128 ^ i, _, by omega, rfl, drewN_of HW.out _, by simp, rfl, Asi.mk ?_, Asi.mk ?_⟩
              · have := HA.out
                rw [Nat.pow_succ]
                have h1 : z % 128 * 128 ^ i ≤ 127 * 128 ^ i := Nat.mul_le_mul_right _ (by omega)
                omega
              · rw [show 10 - (i + 1) = 9 - i by omega]
                exact HD.out
    · have h10 : i = 10 := by omega
      subst h10
      go_wp2
      go_ret3
      rw [HD.out, HW.out]
      exact ⟨⟨_, rfl⟩, rfl⟩
end Go.Proofs.Ytahecnlglcfddaa
