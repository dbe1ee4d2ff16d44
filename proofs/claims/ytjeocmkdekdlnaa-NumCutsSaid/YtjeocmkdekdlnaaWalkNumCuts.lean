/-
  NumCuts: the walk of the law: it answers true.
-/
import Derived.Test.YtjeocmkdekdlnaaPut
import Derived.Test.YtjeocmkdekdlnaaGet
import Derived.Test.YtjeocmkdekdlnaaWithin
namespace Go.Proofs.Ytjeocmkdekdlnaa.lawNumCuts
open Go.RowKit kit put get within

/-- a beginning of what is written ends too early -/
theorem cut_short : ∀ (f i n m c : Nat), i + f = 10 → n < 128 ^ i → m < 128 ^ (f + 1) → (i = 9 → m ≤ 1 ∨ 128 ≤ m) → (i + f = 10) → (0 < i → m ≠ 0) → m * 128 ^ i < 18446744073709551616 → c < (putF f m).length → getF f i n ((putF f m).take c) = (0, 0, 3) := by
  intro f
  induction f with
  | zero =>
    intro i n m c hi _ hm _ _ h0 hb hc
    have : i = 10 := by omega
    subst this
    have : m ≠ 0 := h0 (by omega)
    have : 1 * 128 ^ 10 ≤ m * 128 ^ 10 := Nat.mul_le_mul_right _ (by omega)
    have e : (128 : Nat) ^ 10 = 1180591620717411303424 := by decide
    omega
  | succ f ih =>
    intro i n m c hi hn hm h9 _ h0 hb hc
    cases c with
    | zero => rfl
    | succ c =>
      by_cases hs : m < 128
      · rw [putF_small _ _ hs] at hc
        simp at hc
      · have hbig := putF_big f m hs
        rw [hbig] at hc ⊢
        simp only [List.take_succ_cons]
        have e : (UInt8.ofNat (m % 128 + 128)).toNat = m % 128 + 128 := by simp; omega
        have hi9 : i < 9 := by
          rcases Nat.lt_or_ge i 9 with h | h
          · exact h
          · have h2 : (128 : Nat) ^ 9 ≤ 128 ^ i := Nat.pow_le_pow_right (by decide) h
            have h3 : 128 * 128 ^ 9 ≤ m * 128 ^ i := Nat.mul_le_mul (by omega) h2
            have e3 : (128 : Nat) * 128 ^ 9 = 1180591620717411303424 := by decide
            omega
        rw [getF_more _ _ _ _ _ (by rw [e]; omega) (by rw [e]; omega)]
        have hle : m / 128 * 128 ^ (i + 1) ≤ m * 128 ^ i := by
          rw [Nat.pow_succ, Nat.mul_comm (128 ^ i) 128, ← Nat.mul_assoc]
          exact Nat.mul_le_mul_right _ (Nat.div_mul_le_self m 128)
        refine ih (i + 1) _ (m / 128) c (by omega) ?_ ?_ ?_ (by omega) (by omega) (by omega) (by simpa using hc)
        · rw [e]; exact (step_or n i (m % 128 + 128) (by omega) hn (by omega) (by omega)).2.1
        · rw [Nat.pow_succ] at hm; exact Nat.div_lt_of_lt_mul (by rw [Nat.mul_comm]; exact hm)
        · intro h
          have e3 : i = 8 := by omega
          subst e3
          left
          have e4 : (128 : Nat) ^ (8 + 1) = 9223372036854775808 := by decide
          rw [e4] at hle
          omega

theorem getB_cut (n c : Nat) (hn : n < 18446744073709551616) (hc : c < (putB n).length) : getB ((putB n).take c) = (0, 0, 3) :=
  cut_short 10 0 0 n c rfl (by decide) (Nat.lt_of_lt_of_le hn (by decide)) (by omega) rfl (by omega) (by omega) hc

theorem size_extract_le (a : Array UInt8) (c : Nat) : ((⟨a⟩ : ByteArray).extract 0 c).size ≤ a.size := by
  rw [Lib.size_eq, Lib.extract_data]
  simp
  omega

theorem putF_len : ∀ (f n : Nat), 1 ≤ (putF f n).length ∧ (putF f n).length ≤ f + 1 := by
  intro f
  induction f with
  | zero => intro n; simp [putF]
  | succ f ih =>
    intro n
    rw [putF]
    split
    · simp
    · have := ih (n / 128); simp; omega

set_option maxRecDepth 100000 in
theorem walk (a0 : Int) (w0 : (Lit.int .u64 a0).wf = true) (a1 : Int) (_w1 : (Lit.int .i64 a1).wf = true) (W : World) :
    Calls Try.prog 6 #[.int .u64 a0, .int .i64 a1] W fun e w' => e = .returned (.bool true) ∧ Below W.heap.size W w' := by
  obtain ⟨n, rfl, hn⟩ := u64_nat w0
  clear w0
  have hl := putF_len 10 n
  have hlen : (putF 10 n).length = (putB n).length := rfl
  rw [hlen] at hl
  have hl1 : (1 : Int) ≤ ((putB n).length : Int) := by omega
  have hl2 : ((putB n).length : Int) ≤ 11 := by omega
  have hne : (putB n).isEmpty = false := by
    cases h : putB n with
    | nil => rw [h] at hl1; simp at hl1
    | cons _ _ => rfl
  have hw := withinF_bd a1 (putB n).length hl1
  have hcut : Hid (getB ((putB n).take (withinF a1 (putB n).length).toNat) = (0, 0, 3)) := getB_cut n _ hn (by omega)
  clear hlen hl
  go_enter Try.func6, Try.ntmps6
  go_wp2_with (fail)
  refine (put_any n hn _).mono ?_
  rintro e w' ⟨rfl, hb⟩
  go_wp2_with (fail)
  refine (within_any a1 _ hl1 (by omega) _).mono ?_
  rintro e w'' ⟨rfl, rfl⟩
  obtain ⟨c, hc⟩ := Int.eq_ofNat_of_zero_le hw.1
  rw [hc] at hcut hw ⊢
  clear hc
  go_wp2_with (fail)
  refine (get_as _ (by have := size_extract_le (putB n).toArray c; unfold maxLen; simp at this ⊢; omega) 0 0 3 (by rw [Lib.extract_data]; simpa using hcut.out) _).mono ?_
  rintro e w'' ⟨rfl, rfl⟩
  go_wp2_with (fail)
  go_ret
  exact ⟨rfl, hb⟩
end Go.Proofs.Ytjeocmkdekdlnaa.lawNumCuts
