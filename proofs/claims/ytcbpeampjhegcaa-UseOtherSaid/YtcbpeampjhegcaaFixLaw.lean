/-
  num.Fix and num.Unfix undo each other: the plain law.
-/
import Derived.Test.YtcbpeampjhegcaaFix
namespace Go.Proofs.Ytcbpeampjhegcaa.fixl
open Go.RowKit kit Go.Proofs.Ytcbpeampjhegcaa.fix
set_option linter.unusedVariables false

theorem foldl_shift : ∀ (l : List UInt8) (a : Nat), l.foldl (fun a b => a * 256 + b.toNat) a = a * 256 ^ l.length + unfixN l := by
  intro l
  induction l with
  | nil => intro a; simp [unfixN]
  | cons b l ih =>
    intro a
    have e : unfixN (b :: l) = l.foldl (fun a b => a * 256 + b.toNat) b.toNat := by simp [unfixN]
    rw [List.foldl_cons, ih, e, ih, List.length_cons, Nat.pow_succ, Nat.add_mul, Nat.mul_assoc, Nat.mul_comm 256, Nat.add_assoc]
theorem unfix_cons (b : UInt8) (l : List UInt8) : unfixN (b :: l) = b.toNat * 256 ^ l.length + unfixN l := by
  have e : unfixN (b :: l) = l.foldl (fun a b => a * 256 + b.toNat) b.toNat := by simp [unfixN]
  rw [e, foldl_shift]
theorem unfix_fix (n : Nat) : ∀ k, unfixN (fixB n k) = n % 256 ^ k := by
  intro k
  induction k with
  | zero => simp [fixB, unfixN, Nat.mod_one]
  | succ k ih =>
    have h : (UInt8.ofNat (n / 256 ^ k % 256)).toNat = n / 256 ^ k % 256 := by simp
    rw [fixB, unfix_cons, fixB_len, ih, h, Nat.pow_succ, Nat.mod_mul, Nat.mul_comm (256 ^ k), Nat.add_comm]
theorem fixB_add (b m : Nat) : ∀ k j, j ≤ k → fixB (b * 256 ^ k + m) j = fixB m j := by
  intro k j
  induction j with
  | zero => intro _; rfl
  | succ j ih =>
    intro hj
    have e : (b * 256 ^ k + m) / 256 ^ j % 256 = m / 256 ^ j % 256 := by
      obtain ⟨d, rfl⟩ : ∃ d, k = j + 1 + d := ⟨k - (j + 1), by omega⟩
      rw [show b * 256 ^ (j + 1 + d) = 256 ^ j * (256 * (b * 256 ^ d)) from by rw [Nat.pow_add, Nat.pow_succ]; simp only [Nat.mul_comm, Nat.mul_left_comm, Nat.mul_assoc]]
      rw [Nat.mul_add_div (Nat.pow_pos (by decide))]
      omega
    rw [fixB, fixB, e, ih (by omega)]
theorem fix_unfix : ∀ l : List UInt8, fixB (unfixN l) l.length = l := by
  intro l
  induction l with
  | nil => rfl
  | cons b l ih =>
    have hlt := unfixN_lt l
    have hb := b.toNat_lt
    have hp : 0 < 256 ^ l.length := Nat.pow_pos (by decide)
    have e : (b.toNat * 256 ^ l.length + unfixN l) / 256 ^ l.length = b.toNat := by
      rw [Nat.mul_comm, Nat.mul_add_div hp, Nat.div_eq_of_lt hlt, Nat.add_zero]
    rw [List.length_cons, unfix_cons, fixB, e, fixB_add _ _ _ _ (Nat.le_refl _), ih, Nat.mod_eq_of_lt hb]
    simp
theorem fix_one (n : Nat) (h : n < 256) : fixB n 1 = [UInt8.ofNat n] := by
  show [UInt8.ofNat (n / 256 ^ 0 % 256)] = _
  rw [Nat.pow_zero, Nat.div_one, Nat.mod_eq_of_lt h]
theorem fix_byte (b : UInt8) : fixB b.toNat 1 = [b] := by rw [fix_one _ b.toNat_lt]; simp
end Go.Proofs.Ytcbpeampjhegcaa.fixl
