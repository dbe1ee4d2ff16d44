/-
  num.Put: the walk. It answers the bytes 'putB n'.
-/
import Derived.Test.YtcaefeooneomnaaRows
import Derived.Test.YtcaefeooneomnaaKit
namespace Go.Proofs.Ytcaefeooneomnaa.put
open Go.RowKit kit

/-- the bytes of n: seven bits each, the lowest first; all but the last with 128 more -/
def putF : Nat → Nat → List UInt8
  | 0, n => [UInt8.ofNat n]
  | f + 1, n => if n < 128 then [UInt8.ofNat n] else UInt8.ofNat (n % 128 + 128) :: putF f (n / 128)
def putB (n : Nat) : List UInt8 := putF 10 n

theorem tBytes : SliceTy Try.prog 78 5 1 1 (.int .u8 0) := sliceTy_mk Try.underlying78 (by kernel_rfl) rfl (by decide)

theorem putF_len : ∀ (f n : Nat), 1 ≤ (putF f n).length ∧ (putF f n).length ≤ f + 1 := by
  intro f
  induction f with
  | zero => intro n; simp [putF]
  | succ f ih =>
    intro n
    rw [putF]
    split
    · simp
    · have := ih (n / 128); simp; omega

theorem or128 (m : Nat) : bits BinOp.or IntKind.u8 ((m : Int) % 256) 128 = ((UInt8.ofNat (m % 128 + 128)).toNat : Int) := by
  have e : (m : Int) % 256 = ((m % 256 : Nat) : Int) := by omega
  rw [e, show (128 : Int) = ((128 : Nat) : Int) from rfl, u8_or_nat _ _ (by omega) (by omega)]
  have h2 : UInt8.toNat (UInt8.ofNat (m % 128 + 128)) = m % 128 + 128 := by simp; omega
  rw [h2]
  congr 1
  rcases Nat.lt_or_ge (m % 256) 128 with h | h
  · rw [Nat.or_comm, nat_join 7 128 (m % 256) (by decide) (by omega)]; omega
  · have e2 : m % 256 = 128 + m % 128 := by omega
    rw [e2, ← nat_join 7 128 (m % 128) (by decide) (by omega), Nat.or_comm, ← Nat.or_assoc, Nat.or_self, nat_join 7 128 (m % 128) (by decide) (by omega)]
    omega

theorem putF_big (f m : Nat) (h : ¬ m < 128) : putF (f + 1) m = UInt8.ofNat (m % 128 + 128) :: putF f (m / 128) := by rw [putF, if_neg h]
theorem putF_small (f m : Nat) (h : m < 128) : putF f m = [UInt8.ofNat m] := by
  cases f with
  | zero => rfl
  | succ f => rw [putF, if_pos h]

theorem small8 (m : Nat) (h : m < 128) : (m : Int) = ((UInt8.ofNat m).toNat : Int) := by
  have h2 : UInt8.toNat (UInt8.ofNat m) = m := by simp; omega
  rw [h2]

set_option maxRecDepth 100000 in
theorem put_any (n : Nat) (h1 : n < 18446744073709551616) (W : World) :
    Calls Try.prog 30 #[.int .u64 n] W fun e w' => e = .returned (.string ⟨(putB n).toArray⟩) ∧ Below W.heap.size W w' := by
  obtain ⟨N, rfl⟩ : ∃ N, N = n := ⟨_, rfl⟩
  go_enter Try.func30, Try.ntmps30
  go_wp2_with (fail)
  go_loopw [0, 3] (fun x y wr => ∃ f m : Nat, ∃ xs : List UInt8, m < 128 ^ (f + 1) ∧ m < 18446744073709551616 ∧ x = .int .u64 m ∧ wr.ownsRow W.heap.size 5 1 y xs.length (byteCells xs) ∧ xs.length + f = 10 ∧ Hid (putB N = xs ++ putF f m) ∧ Below W.heap.size W wr) (fun x _ _ => (intOf x).toNat)
  case atStart => exact ⟨10, N, [], by omega, h1, rfl, World.ownsRow_nil _ _ _ _, rfl, rfl, Below.refl _ _⟩
  case round =>
    obtain ⟨f, m, xs, hm, hm2, rfl, hown, hlen, hput, hbel⟩ := hrel
    have hsz := hbel.size
    by_cases hlt : m < 128
    · have e8 := Lib.hid (small8 m hlt)
      go_wp2_with (at_builtin; refine app1 put.tBytes rfl (.tmp 14) (.tmp 17) rfl _ _ xs.length (byteCells xs) rfl rfl hown rfl ?c3 ?c4 hbel hsz ?_)
      case c3 => omega
      case c4 => unfold maxLen; omega
      intro v' w1 hown1 _ hbel1 _
      rw [byteCells_snoc xs (UInt8.ofNat m) _ e8.out] at hown1
      have hs := string_of_own (src := 78) (dst := 9) Try.underlying78 Try.underlying5 Try.underlying9 hown1
      clear hown1 hown
      go_wp2
      go_ret
      exact ⟨by rw [hput.out, putF_small f m hlt]; rfl, hbel1⟩
    · have e8 := Lib.hid (or128 m)
      go_wp2_with (at_builtin; refine app1 put.tBytes rfl (.tmp 8) (.tmp 12) rfl _ _ xs.length (byteCells xs) rfl rfl hown rfl ?c3 ?c4 hbel hsz ?_)
      case c3 => omega
      case c4 => unfold maxLen; omega
      intro v' w1 hown1 _ hbel1 _
      rw [byteCells_snoc xs (UInt8.ofNat (m % 128 + 128)) _ e8.out] at hown1
      clear hown
      go_wp2
      go_roundw
      case rel =>
        obtain ⟨f, rfl⟩ : ∃ g, f = g + 1 := by
          cases f with
          | zero => omega
          | succ f => exact ⟨f, rfl⟩
        refine ⟨f, m / 128, xs ++ [UInt8.ofNat (m % 128 + 128)], ?_, by omega, ?_, by simpa using hown1, by simp; omega, ?_, hbel1⟩
        · rw [Nat.pow_succ] at hm; exact Nat.div_lt_of_lt_mul (by rw [Nat.mul_comm]; exact hm)
        · exact val_int (by omega)
        · show putB N = _
          rw [hput.out, putF_big f m hlt]; simp
      case measure => simp [intOf]; omega
end Go.Proofs.Ytcaefeooneomnaa.put
