/-
  The small separation logic: quotient and remainder of numbers without a sign. Nothing here speaks of the program.
-/
import Derived.Test.YtcbpeampjhegcaaSlStr3
namespace Go.Proofs.Ytcbpeampjhegcaa.sl
open Go.RowKit kit
set_option linter.unusedVariables false
section
variable {P : Program} {n : Nat} {F : Frm} {H : List Ent} {o : Oper} {x y : Operand} {T T' : TypeId} {i j : Int}
theorem q_quo64 (ho : o.op = .binOp .quo T x y T') (hx : ev F x = some (.int .u64 i)) (hy : ev F y = some (.int .u64 j)) (h : 0 ≤ i ∧ i ≤ 18446744073709551615 ∧ 1 ≤ j) : Qt P n o F H (.int .u64 (i / j)) := fun a w ha _ => by
  have h2 : ¬ j = 0 := by omega
  have h3 : i.tdiv j = i / j := Int.tdiv_eq_ediv_of_nonneg h.1
  have h4 : 0 ≤ i / j := Int.ediv_nonneg h.1 (by omega)
  have h5 : i / j ≤ i := Int.ediv_le_self j h.1
  have h6 : IntKind.u64.wrap (i / j) = i / j := by rw [IntKind.wrap_u64]; omega
  simp [execOp, ho, ha.eval hx, ha.eval hy, eqGuard, binOp, Op.intDiv, h2, h3, h6]
theorem q_rem64 (ho : o.op = .binOp .rem T x y T') (hx : ev F x = some (.int .u64 i)) (hy : ev F y = some (.int .u64 j)) (h : 0 ≤ i ∧ i ≤ 18446744073709551615 ∧ 1 ≤ j) : Qt P n o F H (.int .u64 (i % j)) := fun a w ha _ => by
  have h2 : ¬ j = 0 := by omega
  have h3 : i.tmod j = i % j := Int.tmod_eq_emod_of_nonneg h.1
  simp [execOp, ho, ha.eval hx, ha.eval hy, eqGuard, binOp, Op.intDiv, h2, h3]
end
end Go.Proofs.Ytcbpeampjhegcaa.sl
