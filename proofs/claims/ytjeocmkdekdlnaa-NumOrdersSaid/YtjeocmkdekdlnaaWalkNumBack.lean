/-
  NumBack: the walk of the law: it answers true.
-/
import Derived.Test.YtjeocmkdekdlnaaPut
import Derived.Test.YtjeocmkdekdlnaaGet
import Derived.Test.YtjeocmkdekdlnaaZig
import Derived.Test.YtjeocmkdekdlnaaFix
namespace Go.Proofs.Ytjeocmkdekdlnaa.lawNumBack
open Go.RowKit kit put get zig fix

theorem get_put : ∀ (f i n m : Nat) (more : List UInt8), i + f = 10 → n < 128 ^ i → (0 < i → m ≠ 0) → n + m * 128 ^ i < 18446744073709551616 →
    getF f i n (putF f m ++ more) = (n + m * 128 ^ i, i + (putF f m).length, 0) := by
  intro f
  induction f with
  | zero =>
    intro i n m more hi hn h0 hb
    have : i = 10 := by omega
    subst this
    have : m ≠ 0 := h0 (by omega)
    have : 1 * 128 ^ 10 ≤ m * 128 ^ 10 := Nat.mul_le_mul_right _ (by omega)
    have e : (128 : Nat) ^ 10 = 1180591620717411303424 := by decide
    omega
  | succ f ih =>
    intro i n m more hi hn h0 hb
    by_cases hs : m < 128
    · rw [putF_small _ _ hs]
      have e : (UInt8.ofNat m).toNat = m := by simp; omega
      have hbad : ¬ (i = 9 ∧ 1 < (UInt8.ofNat m).toNat ∨ 0 < i ∧ (UInt8.ofNat m).toNat = 0) := by
        rw [e]
        rintro (⟨h9, h1⟩ | ⟨h1, h2⟩)
        · subst h9
          have : 2 * 128 ^ 9 ≤ m * 128 ^ 9 := Nat.mul_le_mul_right _ (by omega)
          have e9 : (128 : Nat) ^ 9 = 9223372036854775808 := by decide
          omega
        · exact h0 h1 h2
      rw [List.singleton_append, getF_last _ _ _ _ _ hbad (by rw [e]; exact hs), e, Nat.mod_eq_of_lt hs]
      simp
    · have hbig := putF_big f m hs
      rw [hbig]
      have e : (UInt8.ofNat (m % 128 + 128)).toNat = m % 128 + 128 := by simp; omega
      have hi9 : i < 9 := by
        rcases Nat.lt_or_ge i 9 with h | h
        · exact h
        · have h2 : (128 : Nat) ^ 9 ≤ 128 ^ i := Nat.pow_le_pow_right (by decide) h
          have h3 : 128 * 128 ^ 9 ≤ m * 128 ^ i := Nat.mul_le_mul (by omega) h2
          have e3 : (128 : Nat) * 128 ^ 9 = 1180591620717411303424 := by decide
          omega
      have e5 : n + (m % 128 + 128) % 128 * 128 ^ i + m / 128 * 128 ^ (i + 1) = n + m * 128 ^ i := by
        have e6 : (m % 128 + 128) % 128 = m % 128 := by omega
        rw [e6, Nat.pow_succ, Nat.mul_comm (128 ^ i) 128, ← Nat.mul_assoc, Nat.add_assoc, ← Nat.add_mul]
        congr 2; omega
      rw [List.cons_append, getF_more _ _ _ _ _ (by rw [e]; omega) (by rw [e]; omega), e]
      rw [ih (i + 1) _ (m / 128) more (by omega) ((step_or n i (m % 128 + 128) (by omega) hn (by omega) (by omega)).2.1) (by omega) (by rw [e5]; exact hb), e5]
      simp; omega

theorem getB_put (n : Nat) (more : List UInt8) (hn : n < 18446744073709551616) : getB (putB n ++ more) = (n, (putB n).length, 0) := by
  have := get_put 10 0 0 n more rfl (by decide) (by omega) (by omega)
  simpa [getB, putB] using this

theorem foldl_fix (n : Nat) : ∀ (k a : Nat), (fixB n k).foldl (fun a b => a * 256 + b.toNat) a = a * 256 ^ k + n % 256 ^ k := by
  intro k
  induction k with
  | zero => intro a; simp [fixB, Nat.mod_one]
  | succ k ih =>
    intro a
    have e : (UInt8.ofNat (n / 256 ^ k % 256)).toNat = n / 256 ^ k % 256 := by simp
    rw [fixB, List.foldl_cons, ih, e, Nat.pow_succ, Nat.mod_mul, Nat.add_mul, Nat.mul_assoc, Nat.mul_comm 256 (256 ^ k), Nat.add_assoc, Nat.mul_comm (n / 256 ^ k % 256), Nat.add_comm (n % 256 ^ k)]
theorem unfix_fix (n k : Nat) : unfixN (fixB n k) = n % 256 ^ k := by
  have := foldl_fix n k 0
  simpa [unfixN] using this
theorem unfix_fix8 (n : Nat) (h : n < 18446744073709551616) : unfixN (fixB n 8) = n := by
  rw [unfix_fix, Nat.mod_eq_of_lt (by simpa using h)]

theorem low_eq (n w : Nat) (hn : n < 18446744073709551616) (h1 : 1 ≤ w) (h : w < 8) :
    bits BinOp.and IntKind.u64 (n : Int) (IntKind.u64.wrap (IntKind.u64.wrap (2 ^ (8 * w)) - 1)) = ((unfixN (fixB n w) : Nat) : Int) := by
  rw [unfix_fix, show (256 : Nat) = 2 ^ 8 from rfl, ← Nat.pow_mul]
  have hp : 2 ^ (8 * w) < 18446744073709551616 := Nat.pow_lt_pow_right (a := 2) (by omega) (m := 8 * w) (n := 64) (by omega)
  have hp0 : 0 < 2 ^ (8 * w) := Nat.two_pow_pos _
  have e2 : IntKind.u64.wrap (IntKind.u64.wrap (2 ^ (8 * w)) - 1) = ((2 ^ (8 * w) - 1 : Nat) : Int) := by
    rw [IntKind.wrap_u64, IntKind.wrap_u64, show ((2 : Int) ^ (8 * w)) = ((2 ^ (8 * w) : Nat) : Int) from by simp]
    omega
  rw [e2, u64_and_nat _ _ hn (by omega), Nat.and_two_pow_sub_one_eq_mod]

theorem wrap64_bd (n : Nat) : -9223372036854775808 ≤ wrap64 (n : Int) ∧ wrap64 (n : Int) ≤ 9223372036854775807 := by unfold wrap64; omega

set_option maxRecDepth 100000 in
theorem walk (a0 : Int) (w0 : (Lit.int .u64 a0).wf = true) (s : ByteArray) (hs : s.size ≤ 140737488351232) (a1 : Int) (_w1 : (Lit.int .i64 a1).wf = true) (W : World) :
    Calls Try.prog 10 #[.int .u64 a0, .string s, .int .i64 a1] W fun e w' => e = .returned (.bool true) ∧ Below W.heap.size W w' := by
  obtain ⟨n, rfl, hn⟩ := u64_nat w0
  clear w0
  have hl : (putB n).length ≤ 11 := (putF_len 10 n).2
  have hz : Hid (zigN (zagI n) = n) := zig_zag n
  have hz2 : Hid (zagI (zigN (wrap64 (n : Int))) = wrap64 (n : Int)) := zag_zig _
  have hzb := zigN_lt (wrap64 (n : Int)) (wrap64_bd n).1 (wrap64_bd n).2
  have hzc := zagI_bd n hn
  have hw6 := wrap64_bd n
  have HP : Hid (getB ((⟨(putB n ++ s.data.toList).toArray⟩ : ByteArray).data.toList) = (n, (putB n).length, 0)) := getB_put n s.data.toList hn
  have hcase : (a1 < 1 ∨ 8 < a1) ∨ (∃ k : Nat, a1 = (k : Int) ∧ 1 ≤ k ∧ k < 8) ∨ a1 = 8 := by
    rcases (by omega : (a1 < 1 ∨ 8 < a1) ∨ (1 ≤ a1 ∧ a1 < 8) ∨ a1 = 8) with h | h | h
    · exact .inl h
    · exact .inr (.inl ⟨a1.toNat, by omega, by omega, by omega⟩)
    · exact .inr (.inr h)
  have H1 : Hid (unfixN [] = 0) := rfl
  go_enter Try.func10, Try.ntmps10
  go_wp2_with (fail)
  refine (put_any n hn _).mono ?_
  rintro e w1 ⟨rfl, hb1⟩
  go_wp2_with (fail)
  refine (get_as _ (by unfold maxLen; rw [ByteArray.size_append, size_mk]; omega) n (putB n).length 0 (by simpa using HP.out) _).mono ?_
  rintro e w2 ⟨rfl, rfl⟩
  go_wp2_with (fail)
  refine (put_any n hn _).mono ?_
  rintro e w2 ⟨rfl, hb2⟩
  go_wp2_with (fail)
  refine (zag_any n hn _).mono ?_
  rintro e w3 ⟨rfl, rfl⟩
  go_wp2_with (fail)
  refine (zig_any _ hzc.1 hzc.2 _).mono ?_
  rintro e w3 ⟨rfl, rfl⟩
  rw [hz.out]
  go_wp2_with (fail)
  refine (zig_any _ hw6.1 hw6.2 _).mono ?_
  rintro e w3 ⟨rfl, rfl⟩
  go_wp2_with (fail)
  refine (zag_any _ hzb _).mono ?_
  rintro e w3 ⟨rfl, rfl⟩
  rw [hz2.out]
  go_wp2_with (fail)
  rcases hcase with hw | ⟨k, rfl, hk1, hk8⟩ | rfl
  · refine (fix_no n a1 hw _).mono ?_
    rintro e w3 ⟨rfl, rfl⟩
    go_wp2_with (fail)
    refine (unfix_any ⟨#[]⟩ (by decide) _).mono ?_
    rintro e w3 ⟨rfl, rfl⟩
    rw [show (⟨#[]⟩ : ByteArray).data.toList = [] from rfl, H1.out]
    rcases hw with hw | hw
    all_goals
      go_wp2_with (fail)
      go_ret
      exact ⟨rfl, hb1.trans (hb2.mono hb1.size)⟩
  · have hlen := fixB_len n k
    have HU := Lib.hid (low_eq n k hn hk1 hk8)
    refine (fix_any n k hk1 (by omega) hn _).mono ?_
    rintro e w3 ⟨rfl, hb3⟩
    go_wp2_with (fail)
    refine (unfix_any ⟨(fixB n k).toArray⟩ (by rw [size_mk, hlen]; omega) _).mono ?_
    rintro e w4 ⟨rfl, rfl⟩
    rw [show (⟨(fixB n k).toArray⟩ : ByteArray).data.toList = fixB n k from by simp, ← HU.out]
    have hne : ((k : Int) == 8) = false := by simp; omega
    go_wp2_with (fail)
    go_ret
    exact ⟨rfl, (hb1.trans (hb2.mono hb1.size)).trans (hb3.mono (Nat.le_trans hb1.size hb2.size))⟩
  · have hlen := fixB_len n 8
    have HU := Lib.hid (unfix_fix8 n hn)
    refine (fix_any n 8 (by decide) (by decide) hn _).mono ?_
    rintro e w3 ⟨rfl, hb3⟩
    go_wp2_with (fail)
    refine (unfix_any ⟨(fixB n 8).toArray⟩ (by rw [size_mk, hlen]; omega) _).mono ?_
    rintro e w4 ⟨rfl, rfl⟩
    rw [show (⟨(fixB n 8).toArray⟩ : ByteArray).data.toList = fixB n 8 from by simp, HU.out]
    go_wp2_with (fail)
    go_ret
    exact ⟨rfl, (hb1.trans (hb2.mono hb1.size)).trans (hb3.mono (Nat.le_trans hb1.size hb2.size))⟩
end Go.Proofs.Ytjeocmkdekdlnaa.lawNumBack
