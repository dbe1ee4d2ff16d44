/-
  The small separation logic: more operations. Nothing here speaks of the program.
-/
import Derived.Test.YtajnhbhfggbbpaaSlStr
namespace Go.Proofs.Ytajnhbhfggbbpaa.sl
open Go.RowKit kit
set_option linter.unusedVariables false
section
variable {P : Program} {n : Nat} {F : Frm} {H R : List Ent} {o : Oper} {x y z : Operand} {v u z' : Value} {T S : TypeId}
theorem q_load_mid {b i sz by' : Nat} {cs vs : List Value} {t : TypeId} [ht : Ty P T true sz by' z'] (ho : o.op = .load T x) (hx : ev F x = some (bptr b i)) (p : Pick (box b cs t) H R) (hvs : (cs.drop i).take sz = vs) (hl : vs.length = sz) : Qt P n o F H (.agg vs.toArray) := q_load_box ho hx p hvs hl (valOf_agg vs)
end
theorem qs2 {P : Program} {n : Nat} {o : Oper} {F : Frm} {H : List Ent} {v : Value} (h : Qt P n o F H v := by exact q_load_mid rfl rfl (by exact pka) (by dsimp only [List.drop, List.take]) (by rfl)) : Qt P n o F H v := h
end Go.Proofs.Ytajnhbhfggbbpaa.sl
