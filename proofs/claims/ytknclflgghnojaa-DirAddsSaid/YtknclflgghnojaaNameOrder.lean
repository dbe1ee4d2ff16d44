/-
  The order of names (no program here), and strings compared.
-/
import Derived.Test.YtknclflgghnojaaGoodName
import Derived.Lib.Bytealg
namespace Go.Proofs.Ytknclflgghnojaa.nam
open Go.RowKit kit sl
set_option linter.unusedVariables false
abbrev blt : List UInt8 → List UInt8 → Bool := Op.bytesLess
theorem blt_irrefl : ∀ a : List UInt8, blt a a = false
  | [] => rfl
  | x :: a => by
    show (decide (x < x) || (x == x && blt a a)) = false
    rw [blt_irrefl a]
    simp
theorem blt_trans : ∀ {a b c : List UInt8}, blt a b = true → blt b c = true → blt a c = true
  | _, [], _, h, _ => by simp [blt, Op.bytesLess] at h
  | _, _ :: _, [], _, h => by simp [blt, Op.bytesLess] at h
  | [], _ :: _, _ :: _, _, _ => rfl
  | x :: a, y :: b, z :: c, h1, h2 => by
    change (decide (x < y) || (x == y && blt a b)) = true at h1
    change (decide (y < z) || (y == z && blt b c)) = true at h2
    show (decide (x < z) || (x == z && blt a c)) = true
    simp only [Bool.or_eq_true, Bool.and_eq_true, decide_eq_true_eq, beq_iff_eq] at *
    rcases h1 with h1 | ⟨rfl, h1⟩
    · rcases h2 with h2 | ⟨rfl, h2⟩
      · exact .inl (UInt8.lt_trans h1 h2)
      · exact .inl h1
    · rcases h2 with h2 | ⟨rfl, h2⟩
      · exact .inl h2
      · exact .inr ⟨rfl, blt_trans h1 h2⟩
theorem blt_tri : ∀ a b : List UInt8, blt a b = true ∨ a = b ∨ blt b a = true
  | [], [] => .inr (.inl rfl)
  | [], _ :: _ => .inl rfl
  | _ :: _, [] => .inr (.inr rfl)
  | x :: a, y :: b => by
    show (decide (x < y) || (x == y && blt a b)) = true ∨ _ ∨ (decide (y < x) || (y == x && blt b a)) = true
    simp only [Bool.or_eq_true, Bool.and_eq_true, decide_eq_true_eq, beq_iff_eq]
    rcases Nat.lt_trichotomy x.toNat y.toNat with h | h | h
    · exact .inl (.inl (UInt8.lt_iff_toNat_lt.2 h))
    · have : x = y := UInt8.toNat_inj.1 h
      subst this
      rcases blt_tri a b with h | h | h
      · exact .inl (.inr ⟨rfl, h⟩)
      · exact .inr (.inl (by rw [h]))
      · exact .inr (.inr (.inr ⟨rfl, h⟩))
    · exact .inr (.inr (.inl (UInt8.lt_iff_toNat_lt.2 h)))
theorem blt_ne {a b : List UInt8} (h : blt a b = true) : a ≠ b := fun e => by
  subst e
  rw [blt_irrefl] at h
  cases h
theorem blt_asymm {a b : List UInt8} (h : blt a b = true) : blt b a = false := by
  cases h2 : blt b a with
  | false => rfl
  | true =>
    have := blt_trans h h2
    rw [blt_irrefl] at this
    cases this
theorem cmp_blt : ∀ a b : List UInt8, Lib.compareBytes a b = if blt a b then -1 else if a = b then 0 else 1
  | [], [] => rfl
  | [], _ :: _ => rfl
  | _ :: _, [] => rfl
  | x :: a, y :: b => by
    unfold Lib.compareBytes
    show _ = if (decide (x < y) || (x == y && blt a b)) = true then _ else _
    rw [cmp_blt a b]
    by_cases h1 : x < y
    · simp [h1]
    · by_cases h2 : y < x
      · have h3 : ¬ x = y := fun e => by subst e; exact h1 h2
        simp [h1, h2, h3]
      · have h3 : x = y := UInt8.toNat_inj.1 (by
          have e1 : ¬ x.toNat < y.toNat := fun h => h1 (UInt8.lt_iff_toNat_lt.2 h)
          have e2 : ¬ y.toNat < x.toNat := fun h => h2 (UInt8.lt_iff_toNat_lt.2 h)
          omega)
        subst h3
        simp [h1]
section
variable {P : Program} {n : Nat} {F : Frm} {H R : List Ent} {o : Oper} {x y z : Operand} {v u z' : Value} {T S : TypeId}
theorem q_sgeq {a b : List UInt8} {T' : TypeId} {r : Bool} (ho : o.op = .binOp .geq T x y T') (hx : ev F x = some (.string (str a))) (hy : ev F y = some (.string (str b))) (hr : (!(blt a b)) = r) : Qt P n o F H (.bool r) := fun ac w ha _ => by
  have e1 : ∀ l, (str l).toList = l := str_toList
  simp [execOp, ho, ha.eval hx, ha.eval hy, eqGuard, binOp, Op.stringOp, e1, ← hr]
end
end Go.Proofs.Ytknclflgghnojaa.nam
