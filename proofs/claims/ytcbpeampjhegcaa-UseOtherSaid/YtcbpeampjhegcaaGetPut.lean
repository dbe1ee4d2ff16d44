/-
  num.Get of num.Put, whatever stands behind.
-/
import Derived.Test.YtcbpeampjhegcaaPut
import Derived.Test.YtcbpeampjhegcaaGet
namespace Go.Proofs.Ytcbpeampjhegcaa.get
open Go.RowKit kit put
set_option linter.unusedVariables false

theorem get_put : ∀ (f i n m : Nat) (more : List UInt8), i + f = 10 → n < 128 ^ i → (0 < i → m ≠ 0) → n + m * 128 ^ i < 18446744073709551616 →
    getF f i n (putF f m ++ more) = (n + m * 128 ^ i, i + (putF f m).length, 0) := by
  intro f
  induction f with
  | zero =>
    intro i n m more hi hn h0 hb
    have : i = 10 := by omega
    subst this
    have : m ≠ 0 := h0 (by omega)
    have : 1 * 128 ^ 10 ≤ m * 128 ^ 10 := Nat.mul_le_mul_right _ (by omega)
    have e : (128 : Nat) ^ 10 = 1180591620717411303424 := by decide
    omega
  | succ f ih =>
    intro i n m more hi hn h0 hb
    by_cases hs : m < 128
    · rw [putF_small _ _ hs]
      have e : (UInt8.ofNat m).toNat = m := by simp; omega
      have hbad : ¬ (i = 9 ∧ 1 < (UInt8.ofNat m).toNat ∨ 0 < i ∧ (UInt8.ofNat m).toNat = 0) := by
        rw [e]
        rintro (⟨h9, h1⟩ | ⟨h1, h2⟩)
        · subst h9
          have : 2 * 128 ^ 9 ≤ m * 128 ^ 9 := Nat.mul_le_mul_right _ (by omega)
          have e9 : (128 : Nat) ^ 9 = 9223372036854775808 := by decide
          omega
        · exact h0 h1 h2
      rw [List.singleton_append, getF_last _ _ _ _ _ hbad (by rw [e]; exact hs), e, Nat.mod_eq_of_lt hs]
      simp
    · have hbig := putF_big f m hs
      rw [hbig]
      have e : (UInt8.ofNat (m % 128 + 128)).toNat = m % 128 + 128 := by simp; omega
      have hi9 : i < 9 := by
        rcases Nat.lt_or_ge i 9 with h | h
        · exact h
        · have h2 : (128 : Nat) ^ 9 ≤ 128 ^ i := Nat.pow_le_pow_right (by decide) h
          have h3 : 128 * 128 ^ 9 ≤ m * 128 ^ i := Nat.mul_le_mul (by omega) h2
          have e3 : (128 : Nat) * 128 ^ 9 = 1180591620717411303424 := by decide
          omega
      have e5 : n + (m % 128 + 128) % 128 * 128 ^ i + m / 128 * 128 ^ (i + 1) = n + m * 128 ^ i := by
        have e6 : (m % 128 + 128) % 128 = m % 128 := by omega
        rw [e6, Nat.pow_succ, Nat.mul_comm (128 ^ i) 128, ← Nat.mul_assoc, Nat.add_assoc, ← Nat.add_mul]
        congr 2; omega
      rw [List.cons_append, getF_more _ _ _ _ _ (by rw [e]; omega) (by rw [e]; omega), e]
      rw [ih (i + 1) _ (m / 128) more (by omega) ((step_or n i (m % 128 + 128) (by omega) hn (by omega) (by omega)).2.1) (by omega) (by rw [e5]; exact hb), e5]
      simp; omega

theorem getB_put (n : Nat) (more : List UInt8) (hn : n < 18446744073709551616) : getB (putB n ++ more) = (n, (putB n).length, 0) := by
  have := get_put 10 0 0 n more rfl (by decide) (by omega) (by omega)
  simpa [getB, putB] using this
end Go.Proofs.Ytcbpeampjhegcaa.get
