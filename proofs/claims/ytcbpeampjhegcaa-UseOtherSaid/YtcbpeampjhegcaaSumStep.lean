/-
  package sum: one step, bit by bit; the slow way over a text: the walks.
-/
import Derived.Test.YtcbpeampjhegcaaRows
import Derived.Test.YtcbpeampjhegcaaKit2
namespace Go.Proofs.Ytcbpeampjhegcaa.sum
open Go.RowKit kit

/-- one bit -/
def stepB (c : BitVec 32) : BitVec 32 := if c.getLsbD 0 then (c >>> 1) ^^^ 2197175160#32 else c >>> 1
def steps : Nat → BitVec 32 → BitVec 32
  | 0, c => c
  | k + 1, c => stepB (steps k c)
/-- one byte -/
def byteStep (c : BitVec 32) (b : UInt8) : BitVec 32 := steps 8 (c ^^^ BitVec.ofNat 32 b.toNat)
def crcL (c : BitVec 32) (l : List UInt8) : BitVec 32 := l.foldl byteStep c
def moreB (c : BitVec 32) (l : List UInt8) : BitVec 32 := ~~~ crcL (~~~ c) l
/-- a number of 32 bits as a value -/
def V32 (c : BitVec 32) : Value := .int .u32 (c.toNat : Int)

theorem shr1 (c : BitVec 32) : (c.toNat : Int) / (2 : Int) = ((c >>> 1).toNat : Int) := by
  rw [BitVec.toNat_ushiftRight, Nat.shiftRight_eq_div_pow]; omega
theorem xor32 (a b : BitVec 32) : bits BinOp.xor IntKind.u32 (a.toNat : Int) (b.toNat : Int) = ((a ^^^ b).toNat : Int) := by
  rw [u32_xor_nat _ _ a.isLt b.isLt, BitVec.toNat_xor]
theorem lsb (c : BitVec 32) : (bits BinOp.and IntKind.u32 (c.toNat : Int) 1 == 1) = c.getLsbD 0 := by
  rw [show (1 : Int) = ((1 : Nat) : Int) from rfl, u32_and_nat _ _ c.isLt (by decide), nat_mask1]
  rw [BitVec.getLsbD, Nat.testBit_zero, Bool.eq_iff_iff, beq_iff_eq, decide_eq_true_iff]
  omega

theorem step_any (c : BitVec 32) (W : World) :
    Calls Try.prog 58 #[.int .u32 (c.toNat : Int)] W fun e w' => e = .returned (.int .u32 ((stepB c).toNat : Int)) ∧ W = w' := by
  have hlt := c.isLt
  have hlsb := lsb c
  have HX : Hid (bits BinOp.xor IntKind.u32 ((c.toNat : Int) / 2) 2197175160 = (((c >>> 1) ^^^ 2197175160#32).toNat : Int)) := by
    show _ = _
    rw [shr1, show (2197175160 : Int) = ((2197175160#32).toNat : Int) from rfl, xor32]
  have HS := Lib.hid (shr1 c)
  cases hb : c.getLsbD 0
  · have HB := Lib.hid hb
    rw [hb] at hlsb
    clear hb
    go_enter Try.func58, Try.ntmps58
    go_wp2_with (fail)
    go_ret
    exact ⟨ret_int (by rw [stepB, if_neg (by rw [HB.out]; simp)]; exact HS.out), rfl⟩
  · have HB := Lib.hid hb
    rw [hb] at hlsb
    clear hb
    go_enter Try.func58, Try.ntmps58
    go_wp2_with (fail)
    go_ret
    exact ⟨ret_int (by rw [stepB, if_pos HB.out]; exact HX.out), rfl⟩

theorem not32 (c : BitVec 32) : bits BinOp.xor IntKind.u32 IntKind.u32.max (c.toNat : Int) = ((~~~ c).toNat : Int) := by
  have e : IntKind.u32.max = ((BitVec.allOnes 32).toNat : Int) := by decide
  rw [e, xor32, BitVec.xor_comm, BitVec.xor_allOnes]
theorem byte32 (c : BitVec 32) (b : UInt8) : bits BinOp.xor IntKind.u32 (c.toNat : Int) ((b.toNat : Int) % 4294967296) = ((c ^^^ BitVec.ofNat 32 b.toNat).toNat : Int) := by
  have hb := b.toNat_lt
  have e : (b.toNat : Int) % 4294967296 = ((BitVec.ofNat 32 b.toNat).toNat : Int) := by
    rw [BitVec.toNat_ofNat]; omega
  rw [e, xor32]
theorem crcL_snoc (c : BitVec 32) (l : List UInt8) (b : UInt8) : crcL c (l ++ [b]) = byteStep (crcL c l) b := by simp [crcL]

set_option maxRecDepth 100000 in
theorem slow_any (c : BitVec 32) (s : ByteArray) (hs : s.size ≤ 1000000000000000) (W : World) :
    Calls Try.prog 56 #[.int .u32 (c.toNat : Int), .string s] W fun e w' => e = .returned (.int .u32 ((moreB c s.data.toList).toNat : Int)) ∧ W = w' := by
  obtain ⟨c', hc'⟩ : ∃ c', c' = ~~~ c := ⟨_, rfl⟩
  have hn := not32 c
  rw [← hc'] at hn
  have HN := Lib.hid hn
  have HC := Lib.hid hc'
  clear hn hc'
  go_enter Try.func56, Try.ntmps56
  go_wp2_with (fail)
  rw [HN.out]
  go_loop [0, 5, 10, 19] (fun x _ y _ => ∃ k : Nat, k ≤ s.size ∧ x = .int .u32 ((crcL c' (s.data.toList.take k)).toNat : Int) ∧ y = .int .i64 k) (fun _ _ y _ => s.size - (intOf y).toNat)
  case atStart => exact ⟨0, Nat.zero_le _, rfl, rfl⟩
  case round =>
    obtain ⟨k, hk, rfl, rfl⟩ := hrel
    by_cases hlt : k < s.size
    · have e : s.data.toList.take (k + 1) = s.data.toList.take k ++ [s[k]] := by
        rw [List.take_succ_eq_append_getElem (by simpa using hlt)]; rfl
      have HE : Hid (crcL c' (s.data.toList.take (k + 1)) = byteStep (crcL c' (s.data.toList.take k)) s[k]) := by
        show _ = _
        rw [e, crcL_snoc]
      clear e
      obtain ⟨d, hd⟩ : ∃ d, d = crcL c' (s.data.toList.take k) := ⟨_, rfl⟩
      rw [← hd] at HE ⊢
      clear hd
      obtain ⟨x0, hx0⟩ : ∃ x0, x0 = d ^^^ BitVec.ofNat 32 s[k].toNat := ⟨_, rfl⟩
      have hb := byte32 d s[k]
      rw [← hx0] at hb
      have HB := Lib.hid hb
      have HX := Lib.hid hx0
      clear hb hx0
      go_wp2_with (fail)
      rw [HB.out]
      go_loop [0, 19] (fun x y => ∃ j : Nat, j ≤ 8 ∧ x = .int .u32 ((steps j x0).toNat : Int) ∧ y = .int .i64 j) (fun _ y => 8 - (intOf y).toNat)
      case atStart => exact ⟨0, by omega, rfl, rfl⟩
      case round =>
        obtain ⟨j, hj, rfl, rfl⟩ := hrel
        obtain ⟨g, hg⟩ : ∃ g, g = steps j x0 := ⟨_, rfl⟩
        have HG := Lib.hid hg
        rw [← hg]
        clear hg
        by_cases hj8 : j < 8
        · go_wp2_with (go_at_call 58; refine (step_any g _).mono ?_; rintro e w' ⟨rfl, rfl⟩)
          go_round
          case rel => exact ⟨j + 1, by omega, by rw [steps, ← HG.out], by go_num⟩
          case measure => simp [intOf]; omega
        · obtain rfl : j = 8 := by omega
          go_wp2_with (fail)
          go_round
          case rel => exact ⟨k + 1, by omega, by rw [HE.out, byteStep, ← HX.out, ← HG.out], by go_num⟩
          case measure => simp [intOf]; omega
    · obtain rfl : k = s.size := by omega
      have HE : Hid (s.data.toList.take s.size = s.data.toList) := List.take_of_length_le (by rw [Lib.size_eq]; exact Nat.le_refl _)
      rw [HE.out]
      go_wp2_with (fail)
      go_ret
      exact ⟨by rw [moreB, ← HC.out]; exact ret_int (not32 _), rfl⟩
end Go.Proofs.Ytcbpeampjhegcaa.sum
