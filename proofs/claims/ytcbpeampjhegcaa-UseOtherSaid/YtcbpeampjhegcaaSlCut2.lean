/-
  The small separation logic: a walk that stops ahead of a piece that begins with a region of a given number (so that the piece may be cut). Nothing here speaks of the program.
-/
import Derived.Test.YtcbpeampjhegcaaSlCallV
namespace Go.Proofs.Ytcbpeampjhegcaa.sl
open Go.RowKit kit
set_option linter.unusedVariables false
def isReg (k : Nat) : Code → Bool
  | .region id _ _ => Nat.beq id k
  | _ => false
theorem cod_seq_nr (k : Nat) {P : Program} {Q : Post} {n : Nat} {F : Frm} {H : List Ent} {x y : Code} (h0 : isReg k x = false) (h : Cod P (Exit.then (y.wp P Q) Q) n x F H) : Cod P Q n (.seq x y) F H := cod_seq h
end Go.Proofs.Ytcbpeampjhegcaa.sl
