/-
  bits.From: the closure that reads bits of a text, from a place on.
-/
import Derived.Test.YtnejhldagkennaaPack
namespace Go.Proofs.Ytnejhldagkennaa.bits
open Go.RowKit kit
set_option linter.unusedVariables false

/-- the reader: where it stands in a, its text in t -/
structure Reader (w : World) (a t : Nat) (at_ : Nat) (s : ByteArray) : Prop where
  ha : w.heap[a]? = some (.cells #[.int .i64 (at_ : Int)] 3 (0, 0))
  ht : w.heap[t]? = some (.cells #[.string s] 9 (0, 0))

/-- the number that the w bits from a place on are, the first the lowest -/
def nextV (s : ByteArray) (at0 w : Nat) : Nat := leN s.data.toList / 2 ^ at0 % 2 ^ w

theorem Reader.ne {w : World} {a t n : Nat} {s : ByteArray} (h : Reader w a t n s) : t ≠ a := by
  intro e
  have := h.ha
  rw [← e, h.ht] at this
  simp at this
theorem Reader.set {w : World} {a t n : Nat} {s : ByteArray} (h : Reader w a t n s) (m : Nat) : Reader (w.setCell ⟨a, 0, none⟩ (.int .i64 (m : Int))) a t m s :=
  ⟨by rw [heap_setCell_same _ _ _ _ _ _ h.ha]; rfl, by rw [heap_setCell_other _ _ _ _ h.ne]; exact h.ht⟩
theorem Reader.drew {w : World} {a t n : Nat} {s : ByteArray} (h : Reader w a t n s) : Reader w.drew a t n s := ⟨h.ha, h.ht⟩

theorem piece_and (b : UInt8) (r tk : Nat) (h : tk ≤ 8) :
    bits BinOp.and IntKind.u64 (IntKind.u64.wrap ((b.toNat : Int) / 2 ^ r)) (IntKind.u64.wrap (IntKind.u64.wrap (2 ^ tk) - 1)) = ((b.toNat / 2 ^ r % 2 ^ tk : Nat) : Int) := by
  have hb := b.toNat_lt
  have h1 : (2 : Nat) ^ tk ≤ 2 ^ 8 := Nat.pow_le_pow_right (by decide) h
  have h2 : 0 < (2 : Nat) ^ tk := Nat.two_pow_pos _
  have h3 : b.toNat / 2 ^ r ≤ b.toNat := Nat.div_le_self _ _
  have e1 : IntKind.u64.wrap ((b.toNat : Int) / 2 ^ r) = ((b.toNat / 2 ^ r : Nat) : Int) := by
    rw [IntKind.wrap_u64, show ((b.toNat : Int) / 2 ^ r) = ((b.toNat / 2 ^ r : Nat) : Int) from by simp]
    generalize b.toNat / 2 ^ r = z at h3 ⊢
    omega
  have e2 : IntKind.u64.wrap (2 ^ tk) = ((2 ^ tk : Nat) : Int) := by
    rw [IntKind.wrap_u64, show ((2 : Int) ^ tk) = ((2 ^ tk : Nat) : Int) from by simp]; omega
  have e3 : IntKind.u64.wrap (((2 ^ tk : Nat) : Int) - 1) = ((2 ^ tk - 1 : Nat) : Int) := by
    rw [IntKind.wrap_u64]; omega
  rw [e1, e2, e3, u64_and_nat _ _ (by omega) (by omega), Nat.and_two_pow_sub_one_eq_mod]
theorem piece_or (V P h tk : Nat) (hV : V < 2 ^ h) (hP : P < 2 ^ tk) (hh : h + tk ≤ 64) :
    bits BinOp.or IntKind.u64 (V : Int) (IntKind.u64.wrap ((P : Int) * 2 ^ h)) = ((V + P * 2 ^ h : Nat) : Int) := by
  have h1 : (P + 1) * 2 ^ h ≤ 2 ^ tk * 2 ^ h := Nat.mul_le_mul_right _ hP
  rw [← Nat.pow_add, Nat.add_mul, Nat.one_mul] at h1
  have h2 : (2 : Nat) ^ (tk + h) ≤ 2 ^ 64 := Nat.pow_le_pow_right (by decide) (by omega)
  have h3 : 0 < (2 : Nat) ^ h := Nat.two_pow_pos _
  have e : IntKind.u64.wrap ((P : Int) * 2 ^ h) = ((P * 2 ^ h : Nat) : Int) := by
    rw [IntKind.wrap_u64, show ((P : Int) * 2 ^ h) = ((P * 2 ^ h : Nat) : Int) from by simp]
    omega
  rw [e, u64_or_nat _ _ (by omega) (by omega)]
  congr 1
  rw [Nat.or_comm, nat_join h (P * 2 ^ h) V (Nat.mul_mod_left _ _) hV]
  omega
/-- the bits of a byte in the number that all bytes are -/
theorem leN_byte (l : List UInt8) (q r tk : Nat) (b : UInt8) (hb : l[q]? = some b) (h : tk + r ≤ 8) : leN l / 2 ^ (8 * q + r) % 2 ^ tk = b.toNat / 2 ^ r % 2 ^ tk := by
  induction l generalizing q with
  | nil => simp at hb
  | cons x l ih =>
    cases q with
    | zero =>
      simp at hb
      subst hb
      rw [leN_cons, Nat.mul_zero, Nat.zero_add, show 256 = 2 ^ r * (2 ^ tk * 2 ^ (8 - (tk + r))) from by rw [← Nat.pow_add, ← Nat.pow_add, show r + (tk + (8 - (tk + r))) = 8 from by omega]]
      rw [Nat.mul_assoc, Nat.add_mul_div_left _ _ (Nat.two_pow_pos _), Nat.mul_assoc, Nat.add_mul_mod_self_left]
    | succ q =>
      have hx := x.toNat_lt
      rw [leN_cons, show 8 * (q + 1) + r = 8 + (8 * q + r) from by omega, Nat.pow_add, ← Nat.div_div_eq_div_mul, show (x.toNat + 256 * leN l) / 2 ^ 8 = leN l from by omega]
      exact ih q (by simpa using hb)
theorem nextV_more (s : ByteArray) (at0 h tk q r : Nat) (hq : q < s.size) (he : at0 + h = 8 * q + r) (ht : tk + r ≤ 8) : nextV s at0 (h + tk) = nextV s at0 h + s[q].toNat / 2 ^ r % 2 ^ tk * 2 ^ h := by
  have e := leN_byte s.data.toList q r tk s[q] (by rw [Lib.size_eq] at hq; simp [ByteArray.getElem_eq_getElem_data, List.getElem?_eq_getElem hq]) ht
  unfold nextV
  rw [← e, ← he, Nat.pow_add, Nat.pow_add, Nat.mod_mul, ← Nat.div_div_eq_div_mul, Nat.mul_comm]

end Go.Proofs.Ytnejhldagkennaa.bits
