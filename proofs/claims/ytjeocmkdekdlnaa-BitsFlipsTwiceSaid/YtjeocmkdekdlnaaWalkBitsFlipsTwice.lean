/-
  BitsFlipsTwice: the walk of the law: it answers true.
-/
import Derived.Test.YtjeocmkdekdlnaaFlip
namespace Go.Proofs.Ytjeocmkdekdlnaa.lawBitsFlipsTwice
open Go.RowKit flip
attribute [local go_sem] kit.ite_min kit.ite_max

theorem low_eq (n : Nat) (hn : n < 18446744073709551616) (a : Int) (h : a < 64) :
    bits BinOp.and IntKind.u64 (n : Int) (IntKind.u64.wrap (IntKind.u64.wrap (2 ^ (max 0 a).toNat) - 1)) = ((flipN (flipN n (max 0 (min 64 a)).toNat) (max 0 (min 64 a)).toNat : Nat) : Int) := by
  rw [flipN_twice]
  have e : max 0 (min 64 a) = max 0 a := by omega
  rw [e]
  have hk : (max 0 a).toNat < 64 := by omega
  generalize (max 0 a).toNat = k at *
  have hp : 2 ^ k < 18446744073709551616 := Nat.pow_lt_pow_right (a := 2) (by omega) (m := k) (n := 64) hk
  have hp0 : 0 < 2 ^ k := Nat.two_pow_pos k
  have e2 : IntKind.u64.wrap (IntKind.u64.wrap (2 ^ k) - 1) = ((2 ^ k - 1 : Nat) : Int) := by
    rw [IntKind.wrap_u64, IntKind.wrap_u64, show ((2 : Int) ^ k) = ((2 ^ k : Nat) : Int) from by simp]
    omega
  rw [e2, u64_and_nat _ _ hn (by omega), Nat.and_two_pow_sub_one_eq_mod]

theorem walk (a0 : Int) (w0 : (Lit.int .u64 a0).wf = true) (a1 : Int) (_w1 : (Lit.int .i64 a1).wf = true) (w : World) :
    Calls Try.prog 3 #[.int .u64 a0, .int .i64 a1] w fun e w' => e = .returned (.bool true) ∧ Below w.heap.size w w' := by
  have hb : 0 ≤ a0 ∧ a0 < 18446744073709551616 := by
    have := w0; simp [Lit.wf, IntKind.min, IntKind.max, IntKind.signed, IntKind.bits] at this; omega
  obtain ⟨n, rfl⟩ := Int.eq_ofNat_of_zero_le hb.1
  have hn : n < 18446744073709551616 := by omega
  clear hb w0
  have h2 : flipN n (max 0 (min 64 a1)).toNat < 18446744073709551616 := Nat.lt_of_lt_of_le (flipN_lt _ _) (Nat.pow_le_pow_right (by omega) (show _ ≤ 64 by omega))
  have H : Hid (a1 < 64 → bits BinOp.and IntKind.u64 (n : Int) (IntKind.u64.wrap (IntKind.u64.wrap (2 ^ (max 0 a1).toNat) - 1)) = ((flipN (flipN n (max 0 (min 64 a1)).toNat) (max 0 (min 64 a1)).toNat : Nat) : Int)) := low_eq n hn a1
  have H3 : Hid (¬ a1 < 64 → ((flipN (flipN n (max 0 (min 64 a1)).toNat) (max 0 (min 64 a1)).toNat : Nat) : Int) = n) := fun h => by
    rw [flipN_twice]
    have e : (max 0 (min 64 a1)).toNat = 64 := by omega
    rw [e]; omega
  have H4 : Hid (flipN 1 8 = 128) := (by decide : flipN 1 8 = 128)
  by_cases hk : a1 < 64
  · go_enter Try.func3, Try.ntmps3
    go_wp2_with (fail)
    refine (flip_any n a1 hn _).mono ?_
    rintro e w' ⟨rfl, rfl⟩
    go_wp2_with (fail)
    refine (flip_any _ a1 h2 _).mono ?_
    rintro e w' ⟨rfl, rfl⟩
    rw [← H.out hk]
    go_wp2_with (fail)
    refine (flip_any 1 8 (by decide) _).mono ?_
    rintro e w' ⟨rfl, rfl⟩
    rw [show (max 0 (min 64 (8 : Int))).toNat = 8 from rfl, H4.out]
    go_wp2_with (fail)
    go_ret
    exact ⟨rfl, Below.refl _ _⟩
  · go_enter Try.func3, Try.ntmps3
    go_wp2_with (fail)
    refine (flip_any n a1 hn _).mono ?_
    rintro e w' ⟨rfl, rfl⟩
    go_wp2_with (fail)
    refine (flip_any _ a1 h2 _).mono ?_
    rintro e w' ⟨rfl, rfl⟩
    rw [H3.out hk]
    go_wp2_with (fail)
    refine (flip_any 1 8 (by decide) _).mono ?_
    rintro e w' ⟨rfl, rfl⟩
    rw [show (max 0 (min 64 (8 : Int))).toNat = 8 from rfl, H4.out]
    go_wp2_with (fail)
    go_ret
    exact ⟨rfl, Below.refl _ _⟩
end Go.Proofs.Ytjeocmkdekdlnaa.lawBitsFlipsTwice
