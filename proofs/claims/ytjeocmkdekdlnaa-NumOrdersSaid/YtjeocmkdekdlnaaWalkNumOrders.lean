/-
  NumOrders: the walk of the law: it answers true.
-/
import Derived.Test.YtjeocmkdekdlnaaPut
import Derived.Test.YtjeocmkdekdlnaaZig
import Derived.Test.YtjeocmkdekdlnaaFix
import Derived.Test.YtjeocmkdekdlnaaWalkNumBack
import Derived.Test.YtjeocmkdekdlnaaKit2
namespace Go.Proofs.Ytjeocmkdekdlnaa.lawNumOrders
open Go.RowKit kit put zig fix

def farN (x : Int) : Nat := if x < 0 then (-(x + 1)).toNat else x.toNat

theorem far_any (x : Int) (h1 : -9223372036854775808 ≤ x) (h2 : x ≤ 9223372036854775807) (W : World) :
    Calls Try.prog 16 #[.int .i64 x] W fun e w' => e = .returned (.int .u64 (farN x : Int)) ∧ W = w' := by
  by_cases h : x < 0
  · go_enter Try.func16, Try.ntmps16
    go_wp2_with (fail)
    go_ret
    exact ⟨ret_int (by rw [farN, if_pos h]; omega), rfl⟩
  · go_enter Try.func16, Try.ntmps16
    go_wp2_with (fail)
    go_ret
    exact ⟨ret_int (by rw [farN, if_neg (by omega)]; omega), rfl⟩

theorem zig_far (x y : Int) (h : farN x < farN y) : zigN x < zigN y := by
  unfold farN at h
  unfold zigN
  split at h <;> split at h <;> split <;> split <;> omega

theorem len_mono : ∀ (f a b : Nat), a ≤ b → (putF f a).length ≤ (putF f b).length := by
  intro f
  induction f with
  | zero => intro a b _; simp [putF]
  | succ f ih =>
    intro a b h
    by_cases ha : a < 128
    · rw [putF_small _ _ ha]; exact (putF_len _ _).1
    · rw [putF_big _ _ ha, putF_big _ _ (by omega)]
      have := ih (a / 128) (b / 128) (Nat.div_le_div_right h)
      simpa using this

theorem put_inj (a b : Nat) (ha : a < 18446744073709551616) (hb : b < 18446744073709551616) (h : putB a = putB b) : a = b := by
  have h1 := lawNumBack.getB_put a [] ha
  have h2 := lawNumBack.getB_put b [] hb
  rw [h, h2] at h1
  exact (congrArg Prod.fst h1).symm

theorem less_fix (a b : Nat) : ∀ k, Op.bytesLess (fixB a k) (fixB b k) = decide (a % 256 ^ k < b % 256 ^ k) := by
  intro k
  induction k with
  | zero => simp [fixB, Op.bytesLess, Nat.mod_one]
  | succ k ih =>
    rw [fixB, fixB, Op.bytesLess, ih, Nat.pow_succ, Nat.mod_mul, Nat.mod_mul]
    have hp : a / 256 ^ k % 256 < 256 := Nat.mod_lt _ (by decide)
    have hq : b / 256 ^ k % 256 < 256 := Nat.mod_lt _ (by decide)
    have hr : a % 256 ^ k < 256 ^ k := Nat.mod_lt _ (Nat.pow_pos (by decide))
    have hs : b % 256 ^ k < 256 ^ k := Nat.mod_lt _ (Nat.pow_pos (by decide))
    generalize a / 256 ^ k % 256 = p at *
    generalize b / 256 ^ k % 256 = q at *
    generalize a % 256 ^ k = r at *
    generalize b % 256 ^ k = t at *
    generalize 256 ^ k = m at *
    have e1 : (UInt8.ofNat p < UInt8.ofNat q) ↔ p < q := by
      rw [UInt8.lt_iff_toNat_lt]; simp; omega
    have e2 : (UInt8.ofNat p == UInt8.ofNat q) = decide (p = q) := by
      rw [Bool.eq_iff_iff, beq_iff_eq, decide_eq_true_iff]
      constructor
      · intro h
        have := congrArg UInt8.toNat h
        simp at this
        omega
      · intro h; rw [h]
    rw [e2]
    rcases Nat.lt_trichotomy p q with h | h | h
    · have h1 : m * p + m ≤ m * q := by rw [← Nat.mul_succ]; exact Nat.mul_le_mul_left _ h
      have h2 : r + m * p < t + m * q := by omega
      simp [e1, h, h2]
    · subst h; simp
    · have h1 : m * q + m ≤ m * p := by rw [← Nat.mul_succ]; exact Nat.mul_le_mul_left _ h
      have h2 : ¬ r + m * p < t + m * q := by omega
      have h3 : ¬ p < q := by omega
      have h4 : ¬ p = q := by omega
      have h5 : ¬ (UInt8.ofNat p < UInt8.ofNat q) := fun x => h3 (e1.1 x)
      simp [h5, h2, h4]

set_option maxHeartbeats 4000000 in
set_option maxRecDepth 100000 in
theorem walk (a0 : Int) (w0 : (Lit.int .u64 a0).wf = true) (b0 : Int) (w1 : (Lit.int .u64 b0).wf = true) (W : World) :
    Calls Try.prog 4 #[.int .u64 a0, .int .u64 b0] W fun e w' => e = .returned (.bool true) ∧ Below W.heap.size W w' := by
  obtain ⟨a, rfl, ha⟩ := u64_nat w0
  obtain ⟨b, rfl, hb⟩ := u64_nat w1
  clear w0 w1
  obtain ⟨x, hx⟩ : ∃ x, x = wrap64 (a : Int) := ⟨_, rfl⟩
  obtain ⟨y, hy⟩ : ∃ y, y = wrap64 (b : Int) := ⟨_, rfl⟩
  have hxb := lawNumBack.wrap64_bd a
  have hyb := lawNumBack.wrap64_bd b
  rw [← hx] at hxb
  rw [← hy] at hyb
  have HX := Lib.hid hx
  have HY := Lib.hid hy
  clear hx hy
  have hf8 : Hid (∀ c, c < 18446744073709551616 → c % 256 ^ 8 = c) := fun c h => Nat.mod_eq_of_lt (by simpa using h)
  have hzf := zig_far x y
  have hla := (putF_len 10 a).2
  have hlb := (putF_len 10 b).2
  have hless := less_fix a b 8
  rw [hf8.out a ha, hf8.out b hb] at hless
  have key : ∀ (_ : ((farN x : Int) < (farN y : Int) ∧ (zigN x : Int) < (zigN y : Int)) ∨ ¬ ((farN x : Int) < (farN y : Int))),
      ((decide (a < b) = true ∧ decide (b < a) = false ∧ Op.bytesLess (fixB a 8) (fixB b 8) = true ∧ ((putB a).length : Int) ≤ ((putB b).length : Int) ∧ ((a : Int) == (b : Int)) = false ∧ (putB a == putB b) = false) ∨
       (decide (a < b) = false ∧ decide (b < a) = true ∧ Op.bytesLess (fixB a 8) (fixB b 8) = false ∧ ((putB a).length : Int) ≤ 11 ∧ ((a : Int) == (b : Int)) = false ∧ (putB a == putB b) = false) ∨
       (decide (a < b) = false ∧ decide (b < a) = false ∧ Op.bytesLess (fixB a 8) (fixB b 8) = false ∧ ((putB a).length : Int) ≤ ((putB b).length : Int) ∧ ((a : Int) == (b : Int)) = true ∧ (putB a == putB b) = true)) →
      Calls Try.prog 4 #[.int .u64 a, .int .u64 b] W fun e w' => e = .returned (.bool true) ∧ Below W.heap.size W w' := by
    clear hless hzf hla hlb
    rintro (⟨f1, f2⟩ | f1) (⟨g0, g1, g2, g3, g4, g5⟩ | ⟨g0, g1, g2, g3, g4, g5⟩ | ⟨g0, g1, g2, g3, g4, g5⟩)
    all_goals
      go_enter Try.func4, Try.ntmps4
      go_wp2_with (fail)
      rw [← HX.out]
      try rw [← HY.out]
      refine (far_any x hxb.1 hxb.2 _).mono ?_
      rintro e w3 ⟨rfl, rfl⟩
      go_wp2_with (fail)
      try rw [← HY.out]
      refine (far_any y hyb.1 hyb.2 _).mono ?_
      rintro e w3 ⟨rfl, rfl⟩
      go_wp2_with (first
        | (go_at_call_of 17 (Value.int IntKind.i64 x); refine (zig_any x hxb.1 hxb.2 _).mono ?_; rintro e w3 ⟨rfl, rfl⟩)
        | (go_at_call_of 17 (Value.int IntKind.i64 y); refine (zig_any y hyb.1 hyb.2 _).mono ?_; rintro e w3 ⟨rfl, rfl⟩)
        | (go_at_call_of 18 (Value.int IntKind.u64 (a : Int)); refine (from_below (fix_any a 8 (by decide) (by decide) ha _) (by first | assumption | exact Below.refl _ _)).mono ?_; rintro e w4 ⟨rfl, hb4⟩)
        | (go_at_call_of 18 (Value.int IntKind.u64 (b : Int)); refine (from_below (fix_any b 8 (by decide) (by decide) hb _) (by first | assumption | exact Below.refl _ _)).mono ?_; rintro e w4 ⟨rfl, hb4⟩)
        | (go_at_call_of 19 (Value.int IntKind.u64 (a : Int)); refine (from_below (put_any a ha _) (by first | assumption | exact Below.refl _ _)).mono ?_; rintro e w4 ⟨rfl, hb4⟩)
        | (go_at_call_of 19 (Value.int IntKind.u64 (b : Int)); refine (from_below (put_any b hb _) (by first | assumption | exact Below.refl _ _)).mono ?_; rintro e w4 ⟨rfl, hb4⟩))
      go_ret
      exact ⟨rfl, by assumption⟩
  refine key ?_ ?_
  · by_cases h : farN x < farN y
    · have := hzf h
      exact .inl ⟨by omega, by omega⟩
    · exact .inr (by omega)
  · have hbeq : a ≠ b → (putB a == putB b) = false := fun h => by
      rw [beq_eq_false_iff_ne]
      exact fun h2 => h (put_inj a b ha hb h2)
    rcases Nat.lt_trichotomy a b with h | h | h
    · refine .inl ⟨by simp; omega, by simp; omega, by rw [hless]; simp [h], ?_, by simp; omega, hbeq (by omega)⟩
      have := len_mono 10 a b (by omega)
      unfold putB; omega
    · subst h
      exact .inr (.inr ⟨by simp, by simp, by rw [hless]; simp, by omega, by simp, by simp⟩)
    · exact .inr (.inl ⟨by simp; omega, by simp; omega, by rw [hless]; simp; omega, by unfold putB; omega, by simp; omega, hbeq (by omega)⟩)
end Go.Proofs.Ytjeocmkdekdlnaa.lawNumOrders
