/-
  num.Put: the walk. It answers the bytes 'putB n'.
-/
import Derived.Test.YtcbpeampjhegcaaRows
import Derived.Test.YtcbpeampjhegcaaKit
namespace Go.Proofs.Ytcbpeampjhegcaa.put
open Go.RowKit kit

/-- the bytes of n: seven bits each, the lowest first; all but the last with 128 more -/
def putF : Nat → Nat → List UInt8
  | 0, n => [UInt8.ofNat n]
  | f + 1, n => if n < 128 then [UInt8.ofNat n] else UInt8.ofNat (n % 128 + 128) :: putF f (n / 128)
def putB (n : Nat) : List UInt8 := putF 10 n

theorem tBytes : SliceTy Try.prog 90 5 1 1 (.int .u8 0) := sliceTy_mk Try.underlying90 (by kernel_rfl) rfl (by decide)

theorem putF_len : ∀ (f n : Nat), 1 ≤ (putF f n).length ∧ (putF f n).length ≤ f + 1 := by
  intro f
  induction f with
  | zero => intro n; simp [putF]
  | succ f ih =>
    intro n
    rw [putF]
    split
    · simp
    · have := ih (n / 128); simp; omega

theorem or128 (m : Nat) : bits BinOp.or IntKind.u8 ((m : Int) % 256) 128 = ((UInt8.ofNat (m % 128 + 128)).toNat : Int) := by
  have e : (m : Int) % 256 = ((m % 256 : Nat) : Int) := by omega
  rw [e, show (128 : Int) = ((128 : Nat) : Int) from rfl, u8_or_nat _ _ (by omega) (by omega)]
  have h2 : UInt8.toNat (UInt8.ofNat (m % 128 + 128)) = m % 128 + 128 := by simp; omega
  rw [h2]
  congr 1
  rcases Nat.lt_or_ge (m % 256) 128 with h | h
  · rw [Nat.or_comm, nat_join 7 128 (m % 256) (by decide) (by omega)]; omega
  · have e2 : m % 256 = 128 + m % 128 := by omega
    rw [e2, ← nat_join 7 128 (m % 128) (by decide) (by omega), Nat.or_comm, ← Nat.or_assoc, Nat.or_self, nat_join 7 128 (m % 128) (by decide) (by omega)]
    omega

theorem putF_big (f m : Nat) (h : ¬ m < 128) : putF (f + 1) m = UInt8.ofNat (m % 128 + 128) :: putF f (m / 128) := by rw [putF, if_neg h]
theorem putF_small (f m : Nat) (h : m < 128) : putF f m = [UInt8.ofNat m] := by
  cases f with
  | zero => rfl
  | succ f => rw [putF, if_pos h]

theorem small8 (m : Nat) (h : m < 128) : (m : Int) = ((UInt8.ofNat m).toNat : Int) := by
  have h2 : UInt8.toNat (UInt8.ofNat m) = m := by simp; omega
  rw [h2]

end Go.Proofs.Ytcbpeampjhegcaa.put
