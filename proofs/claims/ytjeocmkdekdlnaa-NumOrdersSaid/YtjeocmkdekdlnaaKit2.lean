/-
  More small lemmas for the walks: contracts met behind other calls.
-/
import Derived.Test.YtjeocmkdekdlnaaKit
namespace Go.Proofs.Ytjeocmkdekdlnaa.kit
open Go.RowKit

/-- A callee that only makes new blocks, met in a world that is as the first one was, but for new blocks. -/
theorem from_below {P : Program} {f : FuncId} {args : Array Value} {w0 w : World} {v : Ending}
    (h : Calls P f args w fun e w' => e = v ∧ Below w.heap.size w w') (hb : Below w0.heap.size w0 w) : Calls P f args w fun e w' => e = v ∧ Below w0.heap.size w0 w' :=
  h.mono fun _ _ ⟨he, hw⟩ => ⟨he, hb.trans (hw.mono hb.size)⟩
end Go.Proofs.Ytjeocmkdekdlnaa.kit
