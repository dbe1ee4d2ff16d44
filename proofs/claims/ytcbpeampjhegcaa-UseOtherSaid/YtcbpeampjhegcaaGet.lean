/-
  num.Get: the walk. It answers what 'getB' says of the bytes.
-/
import Derived.Test.YtcbpeampjhegcaaRows
import Derived.Test.YtcbpeampjhegcaaKit
import Derived.Test.YtcbpeampjhegcaaPut
namespace Go.Proofs.Ytcbpeampjhegcaa.get
open Go.RowKit kit put

/-- the number, how many bytes it takes, and what went wrong (3: too short, 4: not in the form) -/
def getF : Nat → Nat → Nat → List UInt8 → Nat × Nat × Nat
  | 0, _, _, _ => (0, 0, 4)
  | _ + 1, _, _, [] => (0, 0, 3)
  | f + 1, i, n, b :: r =>
    if i = 9 ∧ 1 < b.toNat ∨ 0 < i ∧ b.toNat = 0 then (0, 0, 4)
    else if b.toNat < 128 then (n + b.toNat % 128 * 128 ^ i, i + 1, 0)
    else getF f (i + 1) (n + b.toNat % 128 * 128 ^ i) r
def getB (l : List UInt8) : Nat × Nat × Nat := getF 10 0 0 l
def getV (r : Nat × Nat × Nat) : Value := .tuple #[.int .u64 (r.1 : Int), .int .i64 (r.2.1 : Int), .int .i64 (r.2.2 : Int)]

theorem step_or (n i b : Nat) (hi : i ≤ 9) (hn : n < 128 ^ i) (hb : b < 256) (h9 : ¬ (i = 9 ∧ 1 < b)) :
    bits BinOp.or IntKind.u64 (n : Int) (IntKind.u64.wrap (IntKind.u64.wrap (bits BinOp.and IntKind.u8 (b : Int) 127) * 2 ^ (7 * i))) = ((n + b % 128 * 128 ^ i : Nat) : Int) ∧ n + b % 128 * 128 ^ i < 128 ^ (i + 1) ∧ n + b % 128 * 128 ^ i < 18446744073709551616 := by
  have e1 : bits BinOp.and IntKind.u8 (b : Int) 127 = ((b % 128 : Nat) : Int) := by
    rw [show (127 : Int) = ((127 : Nat) : Int) from rfl, u8_and_nat _ _ hb (by decide), nat_mask7]
  have e2 : (128 : Nat) ^ i = 2 ^ (7 * i) := by rw [Nat.pow_mul]
  have hlt : b % 128 * 128 ^ i + 128 ^ i ≤ 128 ^ (i + 1) := by
    rw [Nat.pow_succ, Nat.mul_comm (128 ^ i) 128, ← Nat.succ_mul]
    exact Nat.mul_le_mul_right _ (by omega)
  have hlt2 : n + b % 128 * 128 ^ i < 18446744073709551616 := by
    by_cases h : i = 9
    · subst h
      have : b % 128 ≤ 1 := by omega
      have h2 : b % 128 * 128 ^ 9 ≤ 1 * 128 ^ 9 := Nat.mul_le_mul_right _ this
      have : (128 : Nat) ^ 9 = 9223372036854775808 := by decide
      omega
    · have h2 : (128 : Nat) ^ (i + 1) ≤ 128 ^ 9 := Nat.pow_le_pow_right (by decide) (by omega)
      have : (128 : Nat) ^ 9 = 9223372036854775808 := by decide
      omega
  refine ⟨?_, by omega, hlt2⟩
  rw [e1, show IntKind.u64.wrap (((b % 128 : Nat) : Int)) = ((b % 128 : Nat) : Int) from by rw [IntKind.wrap_u64]; omega, show ((2 : Int) ^ (7 * i)) = ((2 ^ (7 * i) : Nat) : Int) from by simp, ← Int.natCast_mul, ← e2, IntKind.wrap_u64]
  rw [show (((b % 128 * 128 ^ i : Nat) : Int) % 18446744073709551616) = ((b % 128 * 128 ^ i : Nat) : Int) from by omega]
  rw [u64_or_nat _ _ (by omega) (by omega)]
  congr 1
  rw [Nat.or_comm, nat_join (7 * i) _ _ (by rw [← e2]; exact Nat.mul_mod_left _ _) (by rw [← e2]; exact hn)]
  omega

theorem getF_bad (f i n : Nat) (b : UInt8) (r : List UInt8) (h : i = 9 ∧ 1 < b.toNat ∨ 0 < i ∧ b.toNat = 0) : getF (f + 1) i n (b :: r) = (0, 0, 4) := by rw [getF, if_pos h]
theorem getF_last (f i n : Nat) (b : UInt8) (r : List UInt8) (h : ¬ (i = 9 ∧ 1 < b.toNat ∨ 0 < i ∧ b.toNat = 0)) (h2 : b.toNat < 128) : getF (f + 1) i n (b :: r) = (n + b.toNat % 128 * 128 ^ i, i + 1, 0) := by rw [getF, if_neg h, if_pos h2]
theorem getF_more (f i n : Nat) (b : UInt8) (r : List UInt8) (h : ¬ (i = 9 ∧ 1 < b.toNat ∨ 0 < i ∧ b.toNat = 0)) (h2 : ¬ b.toNat < 128) : getF (f + 1) i n (b :: r) = getF f (i + 1) (n + b.toNat % 128 * 128 ^ i) r := by rw [getF, if_neg h, if_neg h2]

set_option maxRecDepth 100000 in
theorem get_any (s : ByteArray) (hs : s.size ≤ maxLen) (W : World) :
    Calls Try.prog 46 #[.string s] W fun e w' => e = .returned (getV (getB s.data.toList)) ∧ W = w' := by
  unfold maxLen at hs
  go_enter Try.func46, Try.ntmps46
  go_wp2_with (fail)
  go_loop [5, 6] (fun x y => ∃ i n : Nat, i ≤ 10 ∧ i ≤ s.size ∧ n < 128 ^ i ∧ n < 18446744073709551616 ∧ x = .int .u64 n ∧ y = .int .i64 i ∧ Hid (getB s.data.toList = getF (10 - i) i n (s.data.toList.drop i))) (fun _ y => 10 - (intOf y).toNat)
  case atStart => exact ⟨0, 0, by omega, by omega, by decide, by decide, rfl, rfl, rfl⟩
  case round =>
    obtain ⟨i, n, hi, his, hn, hn2, rfl, rfl, hget⟩ := hrel
    by_cases h10 : i < 10
    · by_cases hsz : i = s.size
      · have e : getB s.data.toList = (0, 0, 3) := by
          rw [hget.out, hsz, List.drop_of_length_le (by simp)]
          obtain ⟨k, hk⟩ : ∃ k, 10 - s.size = k + 1 := ⟨9 - s.size, by omega⟩
          rw [hk]; rfl
        have E := Lib.hid e
        clear e hget
        have hb : ((i : Int) == (s.size : Int)) = true := by simp [hsz]
        go_wp2
        go_ret3
        exact ⟨by rw [E.out]; rfl, rfl⟩
      · have hb : ((i : Int) == (s.size : Int)) = false := by simp; omega
        have hlt : i < s.size := by omega
        have hdrop : s.data.toList.drop i = s[i] :: s.data.toList.drop (i + 1) := by
          rw [List.drop_eq_getElem_cons (by simpa using hlt)]; rfl
        obtain ⟨g, hg⟩ : ∃ g, 10 - i = g + 1 := ⟨9 - i, by omega⟩
        have hg2 : 10 - (i + 1) = g := by omega
        have HG : Hid (getB s.data.toList = getF (g + 1) i n (s[i] :: s.data.toList.drop (i + 1))) := by
          show getB s.data.toList = _
          rw [hget.out, hg, hdrop]
        have HG2 := Lib.hid hg2
        clear hdrop hget hg hg2
        rcases Bool.eq_false_or_eq_true ((i : Int) == 9) with t9 | t9 <;> rcases Bool.eq_false_or_eq_true ((s[i].toNat : Int) == 0) with t0 | t0 <;> by_cases t1 : (1 : Int) < (s[i].toNat : Int) <;> by_cases ti : (0 : Int) < (i : Int) <;> by_cases tl : (s[i].toNat : Int) < 128
        all_goals first | (exfalso; (have a9 := t9; have a0 := t0; simp at a9 a0; omega)) | skip
        all_goals first
          | (have hbad : i = 9 ∧ 1 < s[i].toNat ∨ 0 < i ∧ s[i].toNat = 0 := (by (have a9 := t9; have a0 := t0; simp at a9 a0; omega))
             have E : Hid (getB s.data.toList = (0, 0, 4)) := (by (show getB s.data.toList = _; rw [HG.out, getF_bad _ _ _ _ _ hbad]))
             clear HG HG2 hbad
             go_wp2_with (fail)
             go_ret3
             exact ⟨by rw [E.out]; rfl, rfl⟩)
          | (have hbad : ¬ (i = 9 ∧ 1 < s[i].toNat ∨ 0 < i ∧ s[i].toNat = 0) := (by (have a9 := t9; have a0 := t0; simp at a9 a0; omega))
             have hlast : s[i].toNat < 128 := (by omega)
             have ST := Lib.hid (step_or n i s[i].toNat (by omega) hn s[i].toNat_lt (by omega))
             have E : Hid (getB s.data.toList = (n + s[i].toNat % 128 * 128 ^ i, i + 1, 0)) := (by (show getB s.data.toList = _; rw [HG.out, getF_last _ _ _ _ _ hbad hlast]))
             clear HG HG2 hbad
             go_wp2_with (fail)
             go_ret3
             exact ⟨by rw [E.out, getV, ← ST.out.1]; rfl, rfl⟩)
          | (have hbad : ¬ (i = 9 ∧ 1 < s[i].toNat ∨ 0 < i ∧ s[i].toNat = 0) := (by (have a9 := t9; have a0 := t0; simp at a9 a0; omega))
             have hlast : ¬ s[i].toNat < 128 := (by omega)
             have ST := Lib.hid (step_or n i s[i].toNat (by omega) hn s[i].toNat_lt (by omega))
             have E : Hid (getB s.data.toList = getF g (i + 1) (n + s[i].toNat % 128 * 128 ^ i) (s.data.toList.drop (i + 1))) := (by (show getB s.data.toList = _; rw [HG.out, getF_more _ _ _ _ _ hbad hlast]))
             clear HG hbad
             go_wp2_with (fail)
             go_round
             case rel => exact ⟨i + 1, _, by omega, by omega, ST.out.2.1, ST.out.2.2, val_int ST.out.1, by go_num, by rw [HG2.out]; exact E⟩
             case measure => simp [intOf]; omega)
          | skip
    · obtain rfl : i = 10 := by omega
      have E : Hid (getB s.data.toList = (0, 0, 4)) := by
        show getB s.data.toList = _
        rw [hget.out]; rfl
      clear hget
      go_wp2_with (fail)
      go_ret3
      exact ⟨by rw [E.out]; rfl, rfl⟩

theorem get_as (s : ByteArray) (hs : s.size ≤ maxLen) (n k e : Nat) (h : getB s.data.toList = (n, k, e)) (W : World) :
    Calls Try.prog 46 #[.string s] W fun x w' => x = .returned (.tuple #[.int .u64 (n : Int), .int .i64 (k : Int), .int .i64 (e : Int)]) ∧ W = w' :=
  (get_any s hs W).mono fun x w' ⟨hx, hw⟩ => ⟨by rw [hx, h]; rfl, hw⟩

/-- what is read: no more than there is, no more than 64 bits; and nothing, where something is wrong -/
theorem getF_facts : ∀ (f i n : Nat) (l : List UInt8), i + f = 10 → n < 128 ^ i → n < 18446744073709551616 →
    (∃ k m, getF f i n l = (n + m * 128 ^ i, i + k, 0) ∧ 1 ≤ k ∧ k ≤ l.length ∧ n + m * 128 ^ i < 18446744073709551616 ∧ putF f m = l.take k ∧ (0 < i → m ≠ 0)) ∨ getF f i n l = (0, 0, 3) ∨ getF f i n l = (0, 0, 4) := by
  intro f
  induction f with
  | zero => intro i n l hi _ _; exact .inr (.inr rfl)
  | succ f ih =>
    intro i n l hi hn hn2
    cases l with
    | nil => exact .inr (.inl rfl)
    | cons b r =>
      by_cases hbad : i = 9 ∧ 1 < b.toNat ∨ 0 < i ∧ b.toNat = 0
      · exact .inr (.inr (getF_bad _ _ _ _ _ hbad))
      · have ST := step_or n i b.toNat (by omega) hn b.toNat_lt (by omega)
        by_cases hl : b.toNat < 128
        · refine .inl ⟨1, b.toNat, ?_, by omega, by simp, ?_, ?_, by omega⟩
          · rw [getF_last _ _ _ _ _ hbad hl, Nat.mod_eq_of_lt hl]
          · have := ST.2.2; rwa [Nat.mod_eq_of_lt hl] at this
          · rw [putF_small _ _ hl]; simp
        · rw [getF_more _ _ _ _ _ hbad hl]
          rcases ih (i + 1) (n + b.toNat % 128 * 128 ^ i) r (by omega) ST.2.1 ST.2.2 with ⟨k, m, h1, h2, h3, h4, h5, h6⟩ | h | h
          · have e : n + b.toNat % 128 * 128 ^ i + m * 128 ^ (i + 1) = n + (b.toNat % 128 + m * 128) * 128 ^ i := by
              rw [Nat.pow_succ, Nat.add_mul, Nat.mul_assoc m 128, Nat.mul_comm 128, Nat.add_assoc]
            rw [e] at h1 h4
            have hm := h6 (by omega)
            refine .inl ⟨k + 1, b.toNat % 128 + m * 128, ?_, by omega, by simp; omega, h4, ?_, by omega⟩
            · rw [h1, Nat.add_assoc, Nat.add_comm 1 k]
            · rw [putF_big _ _ (by omega)]
              have e1 : (b.toNat % 128 + m * 128) / 128 = m := by omega
              have e2 : (b.toNat % 128 + m * 128) % 128 + 128 = b.toNat := by have := b.toNat_lt; omega
              rw [e1, e2, h5]; simp
          · exact .inr (.inl h)
          · exact .inr (.inr h)

theorem getB_facts (l : List UInt8) : (∃ k m, getB l = (m, k, 0) ∧ 1 ≤ k ∧ k ≤ l.length ∧ m < 18446744073709551616 ∧ putB m = l.take k) ∨ getB l = (0, 0, 3) ∨ getB l = (0, 0, 4) := by
  rcases getF_facts 10 0 0 l rfl (by decide) (by decide) with ⟨k, m, h1, h2, h3, h4, h5, _⟩ | h | h
  · simp at h1 h4
    exact .inl ⟨k, m, h1, h2, h3, h4, h5⟩
  · exact .inr (.inl h)
  · exact .inr (.inr h)
end Go.Proofs.Ytcbpeampjhegcaa.get
