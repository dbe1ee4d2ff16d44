/-
  num.Zig, num.Zag: the walks.
-/
import Derived.Test.YtjeocmkdekdlnaaRows
import Derived.Test.YtjeocmkdekdlnaaKit
namespace Go.Proofs.Ytjeocmkdekdlnaa.zig
open Go.RowKit kit


def zigN (x : Int) : Nat := if 0 ≤ x then (2 * x).toNat else (-2 * x - 1).toNat
def zagI (n : Nat) : Int := if n % 2 = 0 then (n / 2 : Nat) else -((n / 2 : Nat) : Int) - 1

theorem xor_ones64 (a : Nat) (h : a < 18446744073709551616) : a ^^^ 18446744073709551615 = 18446744073709551615 - a := by
  have h1 : (BitVec.ofNat 64 a ^^^ BitVec.allOnes 64).toNat = (~~~ BitVec.ofNat 64 a).toNat := by rw [BitVec.xor_allOnes]
  rw [BitVec.toNat_xor, BitVec.toNat_not, BitVec.toNat_ofNat, BitVec.toNat_allOnes, Nat.mod_eq_of_lt h] at h1
  exact h1

theorem zig_bits (x : Int) (h1 : -9223372036854775808 ≤ x) (h2 : x ≤ 9223372036854775807) :
    bits BinOp.xor IntKind.u64 (IntKind.u64.wrap (IntKind.u64.wrap x * 2)) (IntKind.u64.wrap (x / 9223372036854775808)) = (zigN x : Int) := by
  simp only [IntKind.wrap_u64]
  by_cases h : 0 ≤ x
  · have e1 : x % 18446744073709551616 * 2 % 18446744073709551616 = (((2 * x).toNat : Nat) : Int) := by omega
    have e2 : x / 9223372036854775808 % 18446744073709551616 = ((0 : Nat) : Int) := by omega
    rw [e1, e2, bits_xor_u64_nat _ _ (by omega) (by decide), zigN, if_pos h, Nat.xor_zero]
  · have e1 : x % 18446744073709551616 * 2 % 18446744073709551616 = (((2 * x + 18446744073709551616).toNat : Nat) : Int) := by omega
    have e2 : x / 9223372036854775808 % 18446744073709551616 = ((18446744073709551615 : Nat) : Int) := by omega
    rw [e1, e2, bits_xor_u64_nat _ _ (by omega) (by decide), zigN, if_neg h, xor_ones64 _ (by omega)]
    omega

theorem bits_xor_i64 (a b : Int) : bits .xor .i64 a b = wrap64 (((BitVec.ofInt 64 a ^^^ BitVec.ofInt 64 b).toNat : Nat) : Int) :=
  IntWalk.i64_left _
theorem ofInt64 (a : Nat) (h : a < 18446744073709551616) : (BitVec.ofInt 64 (a : Int)).toNat = a := ofInt_u64 a h

theorem zag_bits (n : Nat) (h : n < 18446744073709551616) :
    bits BinOp.xor IntKind.i64 ((n : Int) / 2) (wrap64 (-wrap64 (bits BinOp.and IntKind.u64 (n : Int) 1))) = zagI n := by
  have e1 : bits BinOp.and IntKind.u64 (n : Int) 1 = ((n % 2 : Nat) : Int) := by
    rw [show (1 : Int) = ((1 : Nat) : Int) from rfl, u64_and_nat n 1 h (by decide), nat_mask1]
  have e2 : (n : Int) / 2 = ((n / 2 : Nat) : Int) := by omega
  rw [e1, e2, IntWalk.wrap64_in ((n % 2 : Nat) : Int) (by omega), IntWalk.wrap64_in _ (by omega), bits_xor_i64]
  rcases Nat.mod_two_eq_zero_or_one n with hm | hm
  · rw [hm, zagI, if_pos hm]
    show wrap64 (((BitVec.ofInt 64 ((n / 2 : Nat) : Int) ^^^ 0#64).toNat : Nat) : Int) = _
    rw [BitVec.xor_zero, ofInt64 _ (by omega)]
    exact IntWalk.wrap64_in _ (by omega)
  · rw [hm, zagI, if_neg (by omega)]
    show wrap64 (((BitVec.ofInt 64 ((n / 2 : Nat) : Int) ^^^ BitVec.allOnes 64).toNat : Nat) : Int) = _
    rw [BitVec.xor_allOnes, BitVec.toNat_not, ofInt64 _ (by omega)]
    unfold wrap64
    omega

theorem zag_zig (x : Int) : zagI (zigN x) = x := by
  unfold zagI zigN
  split <;> split <;> omega
theorem zig_zag (n : Nat) : zigN (zagI n) = n := by
  unfold zagI zigN
  split <;> split <;> omega
theorem zigN_lt (x : Int) (h1 : -9223372036854775808 ≤ x) (h2 : x ≤ 9223372036854775807) : zigN x < 18446744073709551616 := by
  unfold zigN
  split <;> omega
theorem zagI_bd (n : Nat) (h : n < 18446744073709551616) : -9223372036854775808 ≤ zagI n ∧ zagI n ≤ 9223372036854775807 := by
  unfold zagI
  split <;> omega

theorem zig_any (x : Int) (h1 : -9223372036854775808 ≤ x) (h2 : x ≤ 9223372036854775807) (W : World) :
    Calls Try.prog 17 #[.int .i64 x] W fun e w' => e = .returned (.int .u64 (zigN x : Int)) ∧ W = w' := by
  go_enter Try.func17, Try.ntmps17
  go_wp2_with (fail)
  go_ret
  exact ⟨ret_int (zig_bits x h1 h2), rfl⟩

theorem zag_any (n : Nat) (h2 : n < 18446744073709551616) (W : World) :
    Calls Try.prog 27 #[.int .u64 n] W fun e w' => e = .returned (.int .i64 (zagI n)) ∧ W = w' := by
  go_enter Try.func27, Try.ntmps27
  go_wp2_with (fail)
  go_ret
  exact ⟨ret_int (zag_bits n h2), rfl⟩
end Go.Proofs.Ytjeocmkdekdlnaa.zig
