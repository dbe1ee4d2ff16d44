/-
  The small separation logic: more operations. Nothing here speaks of the program.
-/
import Derived.Test.YtajnhbhfggbbpaaSlStr2
namespace Go.Proofs.Ytajnhbhfggbbpaa.sl
open Go.RowKit kit
set_option linter.unusedVariables false
section
variable {P : Program} {n : Nat} {F : Frm} {H R : List Ent} {o : Oper} {x y z : Operand} {v u z' : Value} {T S : TypeId}
theorem q_max {t : Nat} {k : IntKind} {i j : Int} (ho : o.op = .call { callee := .builtin .max, args := #[x, y], argTypes := #[t, t] }) (hx : ev F x = some (.int k i)) (hy : ev F y = some (.int k j)) : Qt P n o F H (.int k (max i j)) := fun a w ha hw => by
  simp [execOp, ho, resolve, invoke, builtin, ha.eval hx, ha.eval hy, Builtin.max_, Builtin.max2, ite_max]
end
end Go.Proofs.Ytajnhbhfggbbpaa.sl
