/-
  blob.Size and blob.Split: what they answer, and the walks.
-/
import Derived.Test.YtcbpeampjhegcaaBlobWrite
namespace Go.Proofs.Ytcbpeampjhegcaa.blob
open Go.RowKit kit sl Go.Proofs.Ytcbpeampjhegcaa.fix Go.Proofs.Ytcbpeampjhegcaa.fixl Go.Proofs.Ytcbpeampjhegcaa.put Go.Proofs.Ytcbpeampjhegcaa.get
set_option linter.unusedVariables false
theorem putB_one {n : Nat} (h : n < 128) : (putB n).length = 1 := by
  unfold putB
  rw [putF_small 10 n h]
  rfl
theorem putB_two {n : Nat} (h : ¬ n < 128) (h2 : n < 16384) : (putB n).length = 2 := by
  unfold putB
  rw [putF_big 9 n h, putF_small 9 (n / 128) (by omega)]
  rfl
theorem oneB_one {p : Blob} (h : p.2.2.2.length < 128) : (oneB p).length = p.2.2.2.length + 4 := by
  unfold oneB
  simp only [List.length_append, List.length_cons, List.length_nil, putB_one h]
  omega
theorem oneB_two {p : Blob} (h : ¬ p.2.2.2.length < 128) (h2 : p.2.2.2.length ≤ 600) : (oneB p).length = p.2.2.2.length + 5 := by
  unfold oneB
  simp only [List.length_append, List.length_cons, List.length_nil, putB_two h (by omega)]
  omega
theorem oneB_bd {p : Blob} (h2 : p.2.2.2.length ≤ 600) : 4 ≤ (oneB p).length ∧ (oneB p).length ≤ 605 := by
  by_cases h : p.2.2.2.length < 128
  · rw [oneB_one h]; omega
  · rw [oneB_two h h2]; omega
/-- blobs laid into cells, one behind the other -/
def grF : List Blob → Nat → Nat → List Int → List Int
  | [], n, _, out => if 0 < n then out ++ [(n : Int)] else out
  | p :: l, n, sz, out => if n = 40 ∨ 1000 < sz + (oneB p).length then grF l 1 (2 + (oneB p).length) (out ++ [(n : Int)]) else grF l (n + 1) (sz + (oneB p).length) out
def splitV (l : List Blob) : List Int × Int := if firstE l ≠ 0 then ([], firstE l) else (grF l 0 2 [], 0)
attribute [local irreducible] box own sl old bptr eptr Qt Opr Run Cod Pst Drn
end Go.Proofs.Ytcbpeampjhegcaa.blob
