/-
  bits.Flip: the walk (what it computes: 'flipN'), and the plain law: flipped twice it is the lowest bits.
-/
import Derived.Test.YtnejhldagkennaaRows
import Derived.Test.YtnejhldagkennaaKit
namespace Go.Proofs.Ytnejhldagkennaa.flip
open Go.RowKit

/-- the lowest k bits of n, the first as the last -/
def flipN (n : Nat) : Nat → Nat
  | 0 => 0
  | k + 1 => flipN n k * 2 + n / 2 ^ k % 2

theorem flipN_lt (n k : Nat) : flipN n k < 2 ^ k := by
  induction k with
  | zero => simp [flipN]
  | succ k ih => rw [flipN, Nat.pow_succ]; omega

theorem flipN_bit (n k i : Nat) : (flipN n k).testBit i = (decide (i < k) && n.testBit (k - 1 - i)) := by
  induction k generalizing i with
  | zero => simp [flipN]
  | succ k ih =>
    cases i with
    | zero =>
      rw [flipN, Nat.testBit_zero, Nat.testBit_eq_decide_div_mod_eq]
      simp
    | succ i =>
      rw [flipN, Nat.testBit_succ]
      have e : (flipN n k * 2 + n / 2 ^ k % 2) / 2 = flipN n k := by omega
      rw [e, ih]
      by_cases h : i < k
      · have e2 : k - 1 - i = k + 1 - 1 - (i + 1) := by omega
        simp [h, e2]
      · simp [h]

theorem flipN_twice (n k : Nat) : flipN (flipN n k) k = n % 2 ^ k := by
  apply Nat.eq_of_testBit_eq
  intro i
  rw [flipN_bit, flipN_bit, Nat.testBit_mod_two_pow]
  by_cases h : i < k
  · have e : k - 1 - (k - 1 - i) = i := by omega
    have e2 : k - 1 - i < k := by omega
    simp [h, e, e2]
  · simp [h]

attribute [local go_sem] kit.ite_min kit.ite_max

theorem step_or (a b : Nat) (ha : a < 18446744073709551616) (hb : b < 9223372036854775808) :
    bits BinOp.or IntKind.u64 (IntKind.u64.wrap ((b : Int) * 2)) (bits BinOp.and IntKind.u64 (a : Int) 1) = ((b * 2 + a % 2 : Nat) : Int) := by
  have e1 : bits BinOp.and IntKind.u64 (a : Int) 1 = ((a % 2 : Nat) : Int) := by
    rw [show (1 : Int) = ((1 : Nat) : Int) from rfl, u64_and_nat a 1 ha (by decide), nat_mask1]
  have e2 : IntKind.u64.wrap ((b : Int) * 2) = ((b * 2 : Nat) : Int) := by
    rw [IntKind.wrap_u64]; omega
  rw [e1, e2, u64_or_nat _ _ (by omega) (by omega)]
  congr 1
  exact nat_join 1 (b * 2) (a % 2) (by omega) (by omega)

/-- Flip answers the lowest bits turned round. -/
theorem flip_any (n : Nat) (w : Int) (h1 : n < 18446744073709551616) (W : World) :
    Calls Try.prog 39 #[.int .u64 n, .int .i64 w] W fun e w' => e = .returned (.int .u64 (flipN n (max 0 (min 64 w)).toNat)) ∧ W = w' := by
  obtain ⟨m, hm⟩ : ∃ m : Nat, max 0 (min 64 w) = (m : Int) := ⟨(max 0 (min 64 w)).toNat, by omega⟩
  have hm64 : m ≤ 64 := by omega
  have HM := Lib.hid hm
  clear hm
  go_enter Try.func39, Try.ntmps39
  go_wp2_with (fail)
  rw [HM.out]
  go_loop [0, 5, 10] (fun x y i => ∃ k : Nat, k ≤ m ∧ i = .int .i64 k ∧ x = .int .u64 ((n / 2 ^ k : Nat) : Int) ∧ y = .int .u64 (flipN n k)) (fun _ _ i => (64 - intOf i).toNat)
  case atStart => exact ⟨0, by omega, rfl, by simp, rfl⟩
  case round =>
    obtain ⟨k, hk, rfl, rfl, rfl⟩ := hrel
    by_cases hlt : k < m
    · go_wp2
      go_round
      case rel =>
        refine ⟨k + 1, by omega, by go_num, ?_, ?_⟩
        · refine kit.val_int ?_
          rw [Nat.pow_succ, ← Nat.div_div_eq_div_mul]; rfl
        · have hb : flipN n k < 2 ^ 63 := Nat.lt_of_lt_of_le (flipN_lt n k) (Nat.pow_le_pow_right (by omega) (by omega))
          have ha : n / 2 ^ k < 18446744073709551616 := Nat.lt_of_le_of_lt (Nat.div_le_self _ _) h1
          exact kit.val_int (step_or _ _ ha hb)
      case measure => simp [intOf]; omega
    · obtain rfl : k = m := by omega
      go_wp2
      go_ret
      exact ⟨by rw [HM.out]; rfl, rfl⟩
end Go.Proofs.Ytnejhldagkennaa.flip
