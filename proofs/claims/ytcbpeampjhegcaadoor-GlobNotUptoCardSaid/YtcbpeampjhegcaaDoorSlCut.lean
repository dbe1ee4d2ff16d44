/-
  The small separation logic: a walk that stops ahead of a piece that begins with a drawn region (so that the piece may be cut). Nothing here speaks of the program.
-/
import Derived.Test.YtcbpeampjhegcaaDoorSlCallV
namespace Go.Proofs.YtcbpeampjhegcaaDoor.sl
open Go.RowKit kit
set_option linter.unusedVariables false
def isDrawn : Code → Bool
  | .region _ _ d => d
  | _ => false
theorem cod_seq_nd {P : Program} {Q : Post} {n : Nat} {F : Frm} {H : List Ent} {x y : Code} (h0 : isDrawn x = false) (h : Cod P (Exit.then (y.wp P Q) Q) n x F H) : Cod P Q n (.seq x y) F H := cod_seq h
end Go.Proofs.YtcbpeampjhegcaaDoor.sl
