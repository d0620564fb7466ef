/- What the functions of the package octet that put, and their references, come to. -/
import Derived.Test.YtahecnlglcfddaaProg
import Derived.Test.YtahecnlglcfddaaNum
set_option linter.unusedVariables false
set_option linter.unusedSimpArgs false
namespace Go.Proofs.Ytahecnlglcfddaa
open Go.RowKit Go.Sep

theorem infoU8 : (Try.prog.info? 5).map (fun i => (i.zero, i.size, i.bytes)) = some (some (.int .u8 0), 1, 1) := by kernel_rfl

/-- A number's bytes: seven bits each, the least first; all but the last have 128 more. -/
def putN (n : Nat) : List Int := if n < 128 then [(n : Int)] else ((n % 128 + 128 : Nat) : Int) :: putN (n / 128)
termination_by n
decreasing_by omega
theorem putN_small {n : Nat} (h : n < 128) : putN n = [(n : Int)] := by rw [putN, if_pos h]
theorem putN_big {n : Nat} (h : ¬ n < 128) : putN n = ((n % 128 + 128 : Nat) : Int) :: putN (n / 128) := by rw [putN, if_neg h]
theorem putN_len : ∀ (k n : Nat), n < 128 ^ (k + 1) → (putN n).length ≤ k + 1
  | 0, n, h => by rw [putN_small (by simpa using h)]; simp
  | k + 1, n, h => by
    by_cases hs : n < 128
    · rw [putN_small hs]; simp
    · rw [putN_big hs, List.length_cons]
      have := putN_len k (n / 128) (by rw [Nat.div_lt_iff_lt_mul (by omega)]; rw [Nat.pow_succ] at h; exact h)
      omega
theorem putN_len10 (n : Nat) (h : n < 18446744073709551616) : (putN n).length ≤ 10 := putN_len 9 n (by omega)
theorem putN_pos (n : Nat) : 0 < (putN n).length := by rw [putN]; split <;> simp
theorem putN_byts (n : Nat) : Byts (putN n) := by
  induction n using Nat.strongRecOn with
  | _ n ih =>
    by_cases h : n < 128
    · rw [putN_small h]; exact Byts.cons (by omega) Byts.nil
    · rw [putN_big h]; exact Byts.cons (by omega) (ih _ (by omega))
theorem or128 (a : Nat) (h : a < 256) : a ||| 128 = a % 128 + 128 := by
  have : ∀ a < 256, a ||| 128 = a % 128 + 128 := by decide +kernel
  exact this a h

set_option maxHeartbeats 1000000 in
theorem put_calls (A : Option Addr) (m c : Nat) (cs : List Value) (n : Nat) (w : World) (HR : Rd w 1 A m cs) (h1 : ∀ u ∈ cs, u.oneCell' = true) (hn : n < 18446744073709551616) (hm : m ≤ 100000000) :
    Calls Try.prog 14 #[.slice A m c, .int .u64 n] w fun e w' => ∃ v, e = .returned v ∧ Sts w w' (star (row 5 1 v (m + (putN n).length) (cs ++ ints .u8 (putN n))) emp) := by
  have HR := Asi.mk HR
  have HS := Asi.mk (Sts.start w)
  have H1 := Asi.mk h1
  have hcl := Asi.mk (show cs.length = m by have := HR.out.1; omega)
  have hlen := putN_len10 n hn
  clear h1
  go_enter Try.func14, Try.ntmps14
  go_wp2_with (refine at_dst (N := 11) rfl ?_; refine stop ?_)
  refine ⟨?_⟩
  refine at_op rfl fun K hK => ?_
  refine op_make HS.out 22 5 _ _ rfl m (m + 10) rfl ?hcap Try.underlying22 _ 1 infoU8 rfl (by omega) (by omega) (by omega) ?_
  case hcap => first | rfl | (simp; done)
  intro v1 w1 h
  refine hK _ _ ?_
  clear hK K
  have HS1 := Asi.mk h
  clear h HS
  go_wp2_with (refine at_dst (N := 14) rfl ?_; refine stop ?_)
  refine ⟨?_⟩
  refine at_op rfl fun K hK => ?_
  refine op_copy v1 m _ 5 HS1.out (.tmp 12) (.tmp 13) 22 22 rfl Try.underlying22 (by kernel_rfl) rfl A m c cs rfl (HR.out.below HS1.out.below) H1.out ?_
  intro w2 h
  refine hK _ _ ?_
  clear hK K
  simp only [Nat.min_self, goInt]
  have HS2 := Asi.mk (show Sts w w2 (star (row 5 1 v1 m cs) emp) from by
    rw [Nat.min_self, List.take_of_length_le (by have := hcl.out; omega), List.drop_eq_nil_of_le (by simp), List.append_nil] at h
    exact h)
  clear h HS1
  go_wp2
  simp only [Act.put, List.setIfInBounds_toArray, List.set_cons_succ, List.set_cons_zero]
  go_loopg [1, 5] (putN n).length (fun g x v wr => ∃ (j : Nat) (pre : List Int), j < 18446744073709551616 ∧ x = .int .u64 j ∧ g = (putN j).length ∧ Asi (putN n = pre ++ putN j) ∧ pre.length + (putN j).length = (putN n).length ∧ Asi (Sts w wr (star (row 5 1 v (m + pre.length) (cs ++ ints .u8 pre)) emp)))
  case atStart => exact ⟨n, [], hn, rfl, rfl, Asi.mk rfl, by simp, Asi.mk (by simpa [ints] using HS2.out)⟩
  case round =>
    clear HS2 HR
    obtain ⟨j, pre, hj, rfl, rfl, HP, hpl, HL⟩ := hrel
    by_cases hlt : j < 128
    · have HJ := Asi.mk (putN_small hlt)
      have hmod : (j : Int) % 256 = j := by omega
      go_wp2_with (refine at_dst (N := 28) rfl ?_; refine stop ?_)
      refine ⟨?_⟩
      refine at_op rfl fun K hK => ?_
      refine op_lit HL.out 5 1 1 (ints .u8 [(j : Int)]) (by first | (go_simp; done) | (go_simp; rfl) | (go_simp; simp [ints]; done)) (by first | rfl | simp [ints]) (by omega) ?_
      intro v3 w3 h
      refine hK _ _ ?_
      clear hK K
      have HS3 := Asi.mk h
      clear h
      obtain ⟨A3, c3, e3, _, _⟩ := HS3.out.row_rd
      subst e3
      go_wp2_with (refine at_dst (N := 29) rfl ?_; refine stop ?_)
      refine ⟨?_⟩
      refine at_op rfl fun K hK => ?_
      refine op_append 1 1 u5 (m + pre.length) (cs ++ ints .u8 pre) 5 HS3.out.swap (.tmp 25) (.tmp 28) 22 _ rfl Try.underlying22 infoU8 rfl (by omega) rfl A3 1 c3 (ints .u8 [(j : Int)]) rfl HS3.out.rd (ints_one _ _) (by omega) (by omega) ?_
      intro v4 w4 h
      refine hK _ _ ?_
      clear hK K
      have HS4 := Asi.mk h.drop2
      clear h HS3
      go_wp2
      go_ret
      refine ⟨_, rfl, ?_⟩
      rw [HP.out, HJ.out, List.length_append, ints_append, ← List.append_assoc, ← Nat.add_assoc]
      exact HS4.out
    · have HJ := Asi.mk (putN_big hlt)
      have hl2 : (putN (j / 128)).length + 1 = (putN j).length := by rw [HJ.out]; simp
      have hor : Go.bits .or .u8 ((j : Int) % 256) 128 = ((j % 128 + 128 : Nat) : Int) := by
        rw [show ((j : Int) % 256) = ((j % 256 : Nat) : Int) from rfl, show (128 : Int) = ((128 : Nat) : Int) from rfl, or8 _ _ (by omega) (by omega), or128 _ (by omega)]
        congr 1
        omega
      go_wp2_with (refine at_dst (N := 21) rfl ?_; refine stop ?_)
      refine ⟨?_⟩
      refine at_op rfl fun K hK => ?_
      refine op_lit HL.out 5 1 1 (ints .u8 [((j % 128 + 128 : Nat) : Int)]) (by first | (go_simp; done) | (go_simp; rfl) | (go_simp; simp [ints]; done)) (by first | rfl | simp [ints]) (by omega) ?_
      intro v3 w3 h
      refine hK _ _ ?_
      clear hK K
      have HS3 := Asi.mk h
      clear h
      obtain ⟨A3, c3, e3, _, _⟩ := HS3.out.row_rd
      subst e3
      go_wp2_with (refine at_dst (N := 22) rfl ?_; refine stop ?_)
      refine ⟨?_⟩
      refine at_op rfl fun K hK => ?_
      refine op_append 1 1 u5 (m + pre.length) (cs ++ ints .u8 pre) 5 HS3.out.swap (.tmp 17) (.tmp 21) 22 _ rfl Try.underlying22 infoU8 rfl (by omega) rfl A3 1 c3 (ints .u8 [((j % 128 + 128 : Nat) : Int)]) rfl HS3.out.rd (ints_one _ _) (by omega) (by omega) ?_
      intro v4 w4 h
      refine hK _ _ ?_
      clear hK K
      have HS4 := Asi.mk h.drop2
      clear h HS3 hor
      go_wp2
      go_roundg (putN (j / 128)).length
      case measure => omega
      case rel =>
        refine ⟨j / 128, pre ++ [((j % 128 + 128 : Nat) : Int)], by omega, by simp, rfl, Asi.mk (by rw [HP.out, HJ.out]; simp), by simp; omega, Asi.mk ?_⟩
        rw [List.length_append, ints_append, ← List.append_assoc, ← Nat.add_assoc]
        exact HS4.out
end Go.Proofs.Ytahecnlglcfddaa
