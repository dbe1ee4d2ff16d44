/-
  blob.Write: the walk.
-/
import Derived.Test.YtcbpeampjhegcaaBlob
namespace Go.Proofs.Ytcbpeampjhegcaa.blob
open Go.RowKit kit sl Go.Proofs.Ytcbpeampjhegcaa.fix Go.Proofs.Ytcbpeampjhegcaa.fixl Go.Proofs.Ytcbpeampjhegcaa.put Go.Proofs.Ytcbpeampjhegcaa.get
set_option linter.unusedVariables false
attribute [local irreducible] box own sl old bptr eptr Qt Opr Run Cod Pst Drn
end Go.Proofs.Ytcbpeampjhegcaa.blob
