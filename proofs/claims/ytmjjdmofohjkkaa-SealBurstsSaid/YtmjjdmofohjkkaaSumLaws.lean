/-
  package sum, in plain Lean: steps and their inverse, four bytes as one number, a burst of bits.
-/
import Derived.Test.YtmjjdmofohjkkaaSumTable
namespace Go.Proofs.Ytmjjdmofohjkkaa.sum
open Go.RowKit kit
set_option linter.unusedVariables false

/-- the bit that came ahead -/
def backB (c : BitVec 32) : BitVec 32 := if c.getLsbD 31 then ((c ^^^ 2197175160#32) <<< 1) ||| 1#32 else c <<< 1
def backs : Nat → BitVec 32 → BitVec 32
  | 0, c => c
  | k + 1, c => backB (backs k c)

theorem poly31 : (2197175160#32).getLsbD 31 = true := by decide
theorem one_bit (i : Nat) : (1#32).getLsbD i = decide (i = 0) := by
  cases i with
  | zero => rfl
  | succ i => simp [BitVec.getLsbD_ofNat, Nat.testBit_succ]

theorem back_step (c : BitVec 32) : backB (stepB c) = c := by
  unfold stepB
  cases h : c.getLsbD 0
  · simp only [Bool.false_eq_true, if_false, backB]
    have h31 : (c >>> 1).getLsbD 31 = false := by rw [BitVec.getLsbD_ushiftRight]; exact BitVec.getLsbD_of_ge _ _ (by decide)
    rw [h31]
    simp only [Bool.false_eq_true, if_false]
    apply BitVec.eq_of_getLsbD_eq
    intro i hi
    rw [BitVec.getLsbD_shiftLeft, BitVec.getLsbD_ushiftRight]
    cases i with
    | zero => rw [h]; simp
    | succ i => simp [hi, Nat.add_comm 1 i]
  · simp only [if_true, backB]
    have h31 : ((c >>> 1) ^^^ 2197175160#32).getLsbD 31 = true := by
      rw [BitVec.getLsbD_xor, poly31, BitVec.getLsbD_ushiftRight, BitVec.getLsbD_of_ge _ _ (by decide)]; rfl
    rw [h31]
    simp only [if_true]
    apply BitVec.eq_of_getLsbD_eq
    intro i hi
    rw [BitVec.getLsbD_or, BitVec.getLsbD_shiftLeft, one_bit, BitVec.getLsbD_xor, BitVec.getLsbD_xor, BitVec.getLsbD_ushiftRight]
    cases i with
    | zero => simp [h]
    | succ i => simp [hi, Nat.add_comm 1 i]

theorem step_back (c : BitVec 32) : stepB (backB c) = c := by
  unfold backB
  cases h : c.getLsbD 31
  · simp only [Bool.false_eq_true, if_false, stepB]
    have h0 : (c <<< 1).getLsbD 0 = false := by simp
    rw [h0]
    simp only [Bool.false_eq_true, if_false]
    apply BitVec.eq_of_getLsbD_eq
    intro i hi
    rw [BitVec.getLsbD_ushiftRight, BitVec.getLsbD_shiftLeft]
    by_cases h2 : i = 31
    · subst h2; rw [h]; simp
    · have e : 1 + i < 32 := by omega
      simp [e]
  · simp only [if_true, stepB]
    have h0 : (((c ^^^ 2197175160#32) <<< 1) ||| 1#32).getLsbD 0 = true := by rw [BitVec.getLsbD_or, one_bit]; simp
    rw [h0]
    simp only [if_true]
    apply BitVec.eq_of_getLsbD_eq
    intro i hi
    rw [BitVec.getLsbD_xor, BitVec.getLsbD_ushiftRight, BitVec.getLsbD_or, BitVec.getLsbD_shiftLeft, one_bit, BitVec.getLsbD_xor]
    by_cases h2 : i = 31
    · subst h2; rw [h, poly31]; simp
    · have e : 1 + i < 32 := by omega
      simp [e]

theorem stepB_zero : stepB 0#32 = 0#32 := by decide
theorem steps_zero (k : Nat) : steps k 0#32 = 0#32 := by
  induction k with
  | zero => rfl
  | succ k ih => rw [steps, ih, stepB_zero]
theorem steps_add (a b : Nat) (c : BitVec 32) : steps (a + b) c = steps a (steps b c) := by
  induction a with
  | zero => rw [Nat.zero_add]; rfl
  | succ a ih => rw [Nat.succ_add, steps, steps, ih]
theorem steps_split (n a b : Nat) (c : BitVec 32) (h : n = a + b) : steps n c = steps a (steps b c) := by subst h; exact steps_add a b c
theorem steps_succ' (k : Nat) (c : BitVec 32) : steps (k + 1) c = steps k (stepB c) := steps_add k 1 c
theorem backs_steps (k : Nat) (c : BitVec 32) : backs k (steps k c) = c := by
  induction k generalizing c with
  | zero => rfl
  | succ k ih => rw [backs, steps_succ', ih, back_step]
theorem steps_backs (k : Nat) (c : BitVec 32) : steps k (backs k c) = c := by
  induction k generalizing c with
  | zero => rfl
  | succ k ih => rw [steps_succ', backs, step_back, ih]
theorem steps_inj (k : Nat) (a b : BitVec 32) (h : steps k a = steps k b) : a = b := by
  rw [← backs_steps k a, h, backs_steps]

/-- a byte that comes in behind k steps -/
theorem byte_in (k : Nat) (hk : k ≤ 24) (x : BitVec 32) (b : UInt8) : steps k x ^^^ BitVec.ofNat 32 b.toNat = steps k (x ^^^ (BitVec.ofNat 32 b.toNat <<< k)) := by
  rw [steps_xor]
  congr 1
  rw [steps_shift _ k (fun i hi => by simp [hi])]
  apply BitVec.eq_of_getLsbD_eq
  intro i hi
  rw [BitVec.getLsbD_ushiftRight, BitVec.getLsbD_shiftLeft]
  have hb := b.toNat_lt
  by_cases h : k + i < 32
  · simp [h]
  · have e : (BitVec.ofNat 32 b.toNat).getLsbD i = false := by
      rw [BitVec.getLsbD_ofNat, Nat.testBit_lt_two_pow (Nat.lt_of_lt_of_le hb (Nat.pow_le_pow_right (n := 2) (by decide) (by omega : 8 ≤ i)))]; simp
    simp [h, e]

theorem join8 (b r : Nat) (hb : b < 256) : BitVec.ofNat 32 (b + 256 * r) = BitVec.ofNat 32 b ^^^ (BitVec.ofNat 32 r <<< 8) := by
  apply BitVec.eq_of_getLsbD_eq
  intro i hi
  rw [BitVec.getLsbD_xor, BitVec.getLsbD_shiftLeft, BitVec.getLsbD_ofNat, BitVec.getLsbD_ofNat, BitVec.getLsbD_ofNat, Nat.add_comm, show 256 * r + b = 2 ^ 8 * r + b from rfl, Nat.testBit_two_pow_mul_add _ hb]
  by_cases h : i < 8
  · simp [h, hi]
  · have e : i - 8 < 32 := by omega
    have e2 : b.testBit i = false := Nat.testBit_lt_two_pow (Nat.lt_of_lt_of_le hb (Nat.pow_le_pow_right (n := 2) (by decide) (by omega : 8 ≤ i)))
    simp [h, hi, e, e2]

/-- four bytes as one number, the lowest first -/
def le4 (b0 b1 b2 b3 : UInt8) : BitVec 32 := BitVec.ofNat 32 (b0.toNat + 256 * (b1.toNat + 256 * (b2.toNat + 256 * b3.toNat)))
def bytes4 (c : BitVec 32) : List UInt8 := [UInt8.ofNat (c.toNat % 256), UInt8.ofNat (c.toNat / 256 % 256), UInt8.ofNat (c.toNat / 65536 % 256), UInt8.ofNat (c.toNat / 16777216 % 256)]

theorem bytes4_le4 (b0 b1 b2 b3 : UInt8) : bytes4 (le4 b0 b1 b2 b3) = [b0, b1, b2, b3] := by
  have h0 := b0.toNat_lt
  have h1 := b1.toNat_lt
  have h2 := b2.toNat_lt
  have h3 := b3.toNat_lt
  have e : (le4 b0 b1 b2 b3).toNat = b0.toNat + 256 * (b1.toNat + 256 * (b2.toNat + 256 * b3.toNat)) := by
    rw [le4, BitVec.toNat_ofNat]; omega
  have r0 : UInt8.ofNat ((le4 b0 b1 b2 b3).toNat % 256) = b0 := by apply UInt8.toNat.inj; rw [e]; simp <;> omega
  have r1 : UInt8.ofNat ((le4 b0 b1 b2 b3).toNat / 256 % 256) = b1 := by apply UInt8.toNat.inj; rw [e]; simp <;> omega
  have r2 : UInt8.ofNat ((le4 b0 b1 b2 b3).toNat / 65536 % 256) = b2 := by apply UInt8.toNat.inj; rw [e]; simp <;> omega
  have r3 : UInt8.ofNat ((le4 b0 b1 b2 b3).toNat / 16777216 % 256) = b3 := by apply UInt8.toNat.inj; rw [e]; simp <;> omega
  rw [bytes4, r0, r1, r2, r3]

theorem le4_bytes4 (c : BitVec 32) : le4 (UInt8.ofNat (c.toNat % 256)) (UInt8.ofNat (c.toNat / 256 % 256)) (UInt8.ofNat (c.toNat / 65536 % 256)) (UInt8.ofNat (c.toNat / 16777216 % 256)) = c := by
  have := c.isLt
  apply BitVec.eq_of_toNat_eq
  rw [le4, BitVec.toNat_ofNat]
  simp
  omega

theorem crc4 (c : BitVec 32) (b0 b1 b2 b3 : UInt8) : crcL c [b0, b1, b2, b3] = steps 32 (c ^^^ le4 b0 b1 b2 b3) := by
  have e : le4 b0 b1 b2 b3 = BitVec.ofNat 32 b0.toNat ^^^ ((BitVec.ofNat 32 b1.toNat) <<< 8 ^^^ ((BitVec.ofNat 32 b2.toNat) <<< 16 ^^^ (BitVec.ofNat 32 b3.toNat) <<< 24)) := by
    rw [le4, join8 _ _ b0.toNat_lt, join8 _ _ b1.toNat_lt, join8 _ _ b2.toNat_lt]
    congr 1
    rw [BitVec.shiftLeft_xor_distrib, BitVec.shiftLeft_xor_distrib, BitVec.shiftLeft_xor_distrib, ← BitVec.shiftLeft_add, ← BitVec.shiftLeft_add, ← BitVec.shiftLeft_add]
  show byteStep (byteStep (byteStep (byteStep c b0) b1) b2) b3 = _
  unfold byteStep
  rw [byte_in 8 (by decide) (c ^^^ BitVec.ofNat 32 b0.toNat) b1, ← steps_split 16 8 8 _ rfl, byte_in 16 (by decide) _ b2, ← steps_split 24 8 16 _ rfl, byte_in 24 (by decide) _ b3, ← steps_split 32 8 24 _ rfl, e]
  congr 1
  simp only [BitVec.xor_assoc]

theorem crcL_app (c : BitVec 32) (a b : List UInt8) : crcL c (a ++ b) = crcL (crcL c a) b := by simp [crcL]
theorem crcL_inj (l : List UInt8) : ∀ (a b : BitVec 32), crcL a l = crcL b l → a = b := by
  induction l with
  | nil => intro a b h; exact h
  | cons x l ih =>
    intro a b h
    have h2 := ih _ _ h
    have h3 := steps_inj 8 _ _ h2
    have h4 := congrArg (· ^^^ BitVec.ofNat 32 x.toNat) h3
    simpa [BitVec.xor_assoc] using h4

theorem byteStep_xor2 (p q : BitVec 32) (x y : UInt8) : byteStep (p ^^^ q) (x ^^^ y) = byteStep p x ^^^ byteStep q y := by
  have e : BitVec.ofNat 32 (x ^^^ y).toNat = BitVec.ofNat 32 x.toNat ^^^ BitVec.ofNat 32 y.toNat := by
    rw [UInt8.toNat_xor]
    apply BitVec.eq_of_getLsbD_eq
    intro i hi
    simp [hi]
  simp only [byteStep]
  rw [← steps_xor, e]
  congr 1
  apply BitVec.eq_of_getLsbD_eq
  intro i _
  simp only [BitVec.getLsbD_xor]
  cases p.getLsbD i <;> cases q.getLsbD i <;> simp
theorem crcL_xor2 : ∀ (a b : List UInt8) (p q : BitVec 32), a.length = b.length → crcL (p ^^^ q) (List.zipWith (· ^^^ ·) a b) = crcL p a ^^^ crcL q b
  | [], [], p, q, _ => by simp [crcL]
  | x :: a, y :: b, p, q, h => by
    have := crcL_xor2 a b (byteStep p x) (byteStep q y) (by simpa using h)
    simp only [List.zipWith_cons_cons]
    simp only [crcL, List.foldl_cons] at this ⊢
    rw [byteStep_xor2]
    exact this

/-! ### Force -/
def forceB (a want : BitVec 32) : List UInt8 := bytes4 (backs 32 (~~~ want) ^^^ ~~~ a)
theorem force_more (a want : BitVec 32) : moreB a (forceB a want) = want := by
  rw [moreB, forceB, bytes4, crc4, le4_bytes4]
  rw [BitVec.xor_comm, BitVec.xor_assoc, BitVec.xor_self, BitVec.xor_zero, steps_backs, BitVec.not_not]
theorem force_only (a : BitVec 32) (b0 b1 b2 b3 : UInt8) : forceB a (moreB a [b0, b1, b2, b3]) = [b0, b1, b2, b3] := by
  rw [moreB, forceB, crc4, BitVec.not_not, backs_steps, BitVec.xor_comm, ← BitVec.xor_assoc, BitVec.xor_self, BitVec.zero_xor, bytes4_le4]

/-! ### A burst -/
def burstE (W : Nat) : List UInt8 := [UInt8.ofNat (W % 256), UInt8.ofNat (W / 256 % 256), UInt8.ofNat (W / 65536 % 256), UInt8.ofNat (W / 16777216 % 256), UInt8.ofNat (W / 4294967296 % 256)]

theorem burst_crc (turn j : Nat) (ht : turn < 4294967296) (hj : j ≤ 7) : crcL 0#32 (burstE (turn * 2 ^ j)) = steps (40 - j) (BitVec.ofNat 32 turn) := by
  obtain ⟨T, hT⟩ : ∃ T, T = BitVec.ofNat 32 turn := ⟨_, rfl⟩
  have hTn : T.toNat = turn := by rw [hT, BitVec.toNat_ofNat]; omega
  have hp : (2 : Nat) ^ j ≤ 128 := Nat.pow_le_pow_right (by decide) hj (n := 2)
  have hp1 : 2 ^ j * 2 ^ (32 - j) = 4294967296 := by rw [← Nat.pow_add, show j + (32 - j) = 32 from by omega]
  have hW : turn * 2 ^ j < 4294967296 * 256 := Nat.lt_of_lt_of_le (Nat.mul_lt_mul_of_pos_right ht (Nat.two_pow_pos j)) (Nat.mul_le_mul_left _ (by omega))
  obtain ⟨W, hWd⟩ : ∃ W, W = turn * 2 ^ j := ⟨_, rfl⟩
  rw [← hWd] at hW ⊢
  have e1 : crcL 0#32 (burstE W) = steps 8 (crcL 0#32 [UInt8.ofNat (W % 256), UInt8.ofNat (W / 256 % 256), UInt8.ofNat (W / 65536 % 256), UInt8.ofNat (W / 16777216 % 256)] ^^^ BitVec.ofNat 32 (UInt8.ofNat (W / 4294967296 % 256)).toNat) := rfl
  rw [e1, crc4, BitVec.zero_xor]
  have e2 : le4 (UInt8.ofNat (W % 256)) (UInt8.ofNat (W / 256 % 256)) (UInt8.ofNat (W / 65536 % 256)) (UInt8.ofNat (W / 16777216 % 256)) = T <<< j := by
    apply BitVec.eq_of_toNat_eq
    rw [le4, BitVec.toNat_ofNat, BitVec.toNat_shiftLeft, hTn, Nat.shiftLeft_eq, ← hWd]
    simp
    omega
  have e3 : BitVec.ofNat 32 (UInt8.ofNat (W / 4294967296 % 256)).toNat = T >>> (32 - j) := by
    apply BitVec.eq_of_toNat_eq
    rw [BitVec.toNat_ofNat, BitVec.toNat_ushiftRight, hTn, Nat.shiftRight_eq_div_pow]
    have e4 : W / 4294967296 = turn / 2 ^ (32 - j) := by
      rw [← hp1, hWd, Nat.mul_comm turn, Nat.mul_div_mul_left _ _ (Nat.two_pow_pos j)]
    rw [← e4]
    simp
    omega
  rw [e2, e3, steps_split 32 (32 - j) j _ (by omega), steps_shift _ j (fun i hi => by simp [hi])]
  have e5 : steps (32 - j) T = steps (32 - j) (T <<< j >>> j) ^^^ T >>> (32 - j) := by
    have e6 : T = (T <<< j >>> j) ^^^ (T >>> (32 - j) <<< (32 - j)) := by
      apply BitVec.eq_of_getLsbD_eq
      intro i hi
      rw [BitVec.getLsbD_xor, BitVec.getLsbD_ushiftRight, BitVec.getLsbD_shiftLeft, BitVec.getLsbD_shiftLeft, BitVec.getLsbD_ushiftRight]
      by_cases h : i < 32 - j
      · have h1 : j + i < 32 := by omega
        simp [h, h1]
      · have h1 : ¬ (j + i < 32) := by omega
        have h2 : 32 - j + (i - (32 - j)) = i := by omega
        simp [h, h1, hi, h2]
    have e7 : steps (32 - j) (T >>> (32 - j) <<< (32 - j)) = T >>> (32 - j) := by
      rw [steps_shift _ (32 - j) (fun i hi => by simp [hi])]
      apply BitVec.eq_of_getLsbD_eq
      intro i hi
      rw [BitVec.getLsbD_ushiftRight, BitVec.getLsbD_shiftLeft]
      by_cases h : 32 - j + i < 32
      · simp [h]
      · simp [h, BitVec.getLsbD_of_ge _ _ (show 32 ≤ 32 - j + i by omega)]
    rw [show steps (32 - j) T = steps (32 - j) ((T <<< j >>> j) ^^^ (T >>> (32 - j) <<< (32 - j))) from by rw [← e6], steps_xor, e7]
  rw [← e5, ← hT, steps_split (40 - j) 8 (32 - j) _ (by omega)]

theorem burst_sum (a m b : List UInt8) (turn j : Nat) (ht : turn < 4294967296) (hj : j ≤ 7) (hm : m.length = 5) (h0 : turn ≠ 0) :
    moreB 0#32 (a ++ m ++ b) ≠ moreB 0#32 (a ++ List.zipWith (· ^^^ ·) m (burstE (turn * 2 ^ j)) ++ b) := by
  intro h
  rw [moreB, moreB] at h
  have h1 : crcL (~~~ 0#32) (a ++ m ++ b) = crcL (~~~ 0#32) (a ++ List.zipWith (· ^^^ ·) m (burstE (turn * 2 ^ j)) ++ b) := by
    have := congrArg (fun x => ~~~ x) h
    simpa using this
  rw [crcL_app, crcL_app, crcL_app, crcL_app] at h1
  have h2 := crcL_inj b _ _ h1
  have h3 := crcL_xor2 m (burstE (turn * 2 ^ j)) (crcL (~~~ 0#32) a) 0#32 (by rw [hm]; rfl)
  rw [BitVec.xor_zero] at h3
  rw [h3, burst_crc turn j ht hj] at h2
  have h4 : steps (40 - j) (BitVec.ofNat 32 turn) = steps (40 - j) 0#32 := by
    rw [steps_zero]
    have := congrArg (fun x => crcL (crcL (~~~ 0#32) a) m ^^^ x) h2
    simp only [BitVec.xor_self, ← BitVec.xor_assoc, BitVec.zero_xor] at this
    exact this.symm
  have h5 := steps_inj _ _ _ h4
  have h6 := congrArg BitVec.toNat h5
  rw [BitVec.toNat_ofNat] at h6
  simp at h6
  omega
end Go.Proofs.Ytmjjdmofohjkkaa.sum
