/-
  num.Fix, num.Unfix: the walks.
-/
import Derived.Test.YtcbpeampjhegcaaRows
import Derived.Test.YtcbpeampjhegcaaKit
import Derived.Test.YtcbpeampjhegcaaPut
namespace Go.Proofs.Ytcbpeampjhegcaa.fix
open Go.RowKit kit put

/-- the lowest k bytes of n, the highest first -/
def fixB (n : Nat) : Nat → List UInt8
  | 0 => []
  | k + 1 => UInt8.ofNat (n / 256 ^ k % 256) :: fixB n k
def unfixN (l : List UInt8) : Nat := l.foldl (fun a b => a * 256 + b.toNat) 0

theorem fixB_len (n k : Nat) : (fixB n k).length = k := by
  induction k with
  | zero => rfl
  | succ k ih => simp [fixB, ih]

theorem small8 (m : Nat) : (m : Int) % 256 = ((UInt8.ofNat (m % 256)).toNat : Int) := by
  have h2 : UInt8.toNat (UInt8.ofNat (m % 256)) = m % 256 := by simp
  rw [h2]; omega

theorem unfixN_snoc (l : List UInt8) (b : UInt8) : unfixN (l ++ [b]) = unfixN l * 256 + b.toNat := by simp [unfixN]
theorem foldl_lt (l : List UInt8) : ∀ (a k : Nat), a < 256 ^ k → l.foldl (fun a b => a * 256 + b.toNat) a < 256 ^ (k + l.length) := by
  induction l with
  | nil => intro a k h; simpa using h
  | cons b l ih =>
    intro a k h
    have := b.toNat_lt
    have h2 : a * 256 + b.toNat < 256 ^ (k + 1) := by rw [Nat.pow_succ]; omega
    have := ih _ _ h2
    rw [List.length_cons, Nat.add_comm l.length 1, ← Nat.add_assoc]
    exact this
theorem unfixN_lt (l : List UInt8) : unfixN l < 256 ^ l.length := by
  have := foldl_lt l 0 0 (by decide)
  simpa [unfixN] using this

theorem step_or (m b k : Nat) (hm : m < 256 ^ k) (hk : k < 8) (hb : b < 256) :
    bits BinOp.or IntKind.u64 (IntKind.u64.wrap ((m : Int) * 256)) (IntKind.u64.wrap (b : Int)) = ((m * 256 + b : Nat) : Int) := by
  have h : (256 : Nat) ^ k ≤ 256 ^ 7 := Nat.pow_le_pow_right (by decide) (by omega)
  have e7 : (256 : Nat) ^ 7 = 72057594037927936 := by decide
  have e : IntKind.u64.wrap ((m : Int) * 256) = ((m * 256 : Nat) : Int) := by rw [IntKind.wrap_u64]; omega
  rw [e, show IntKind.u64.wrap (b : Int) = (b : Int) from by rw [IntKind.wrap_u64]; omega, u64_or_nat _ _ (by omega) (by omega)]
  congr 1
  exact nat_join 8 (m * 256) b (by omega) (by omega)

theorem unfix_large (s : ByteArray) (hs : s.size ≤ 140737488351232) (h : 8 < s.size) (W : World) :
    Calls Try.prog 26 #[.string s] W fun e w' => e = .returned (.tuple #[.int .u64 0, .int .i64 2]) ∧ W = w' := by
  go_enter Try.func26, Try.ntmps26
  go_wp2_with (fail)
  go_ret2
  exact ⟨rfl, rfl⟩

set_option maxRecDepth 100000 in
theorem unfix_any (s : ByteArray) (hs : s.size ≤ 8) (W : World) :
    Calls Try.prog 26 #[.string s] W fun e w' => e = .returned (.tuple #[.int .u64 (unfixN s.data.toList : Int), .int .i64 0]) ∧ W = w' := by
  go_enter Try.func26, Try.ntmps26
  go_wp2_with (fail)
  go_loop [4, 5, 11] (fun x _ y => ∃ k : Nat, k ≤ s.size ∧ x = .int .u64 (unfixN (s.data.toList.take k) : Int) ∧ y = .int .i64 k) (fun _ _ y => 8 - (intOf y).toNat)
  case atStart => exact ⟨0, Nat.zero_le _, rfl, rfl⟩
  case round =>
    obtain ⟨k, hk, rfl, rfl⟩ := hrel
    by_cases hlt : k < s.size
    · have e : s.data.toList.take (k + 1) = s.data.toList.take k ++ [s[k]] := by
        rw [List.take_succ_eq_append_getElem (by simpa using hlt)]; rfl
      have hl := unfixN_lt (s.data.toList.take k)
      have hl2 : (s.data.toList.take k).length = k := by rw [List.length_take]; have : s.data.toList.length = s.size := (Lib.size_eq s).symm; omega
      rw [hl2] at hl
      have hor := step_or _ s[k].toNat k hl (by omega) s[k].toNat_lt
      have HO : Hid (bits BinOp.or IntKind.u64 (IntKind.u64.wrap ((unfixN (s.data.toList.take k) : Int) * 256)) (IntKind.u64.wrap (s[k].toNat : Int)) = (unfixN (s.data.toList.take (k + 1)) : Int)) := by
        show _ = _
        rw [hor, e, unfixN_snoc]
      clear hor e hl2 hl
      go_wp2_with (fail)
      go_round
      case rel => exact ⟨k + 1, by omega, val_int HO.out, by go_num⟩
      case measure => simp [intOf]; omega
    · obtain rfl : k = s.size := by omega
      have HE : Hid (s.data.toList.take s.size = s.data.toList) := List.take_of_length_le (by rw [Lib.size_eq]; exact Nat.le_refl _)
      go_wp2_with (fail)
      go_ret2
      exact ⟨by rw [HE.out]; rfl, rfl⟩
end Go.Proofs.Ytcbpeampjhegcaa.fix
