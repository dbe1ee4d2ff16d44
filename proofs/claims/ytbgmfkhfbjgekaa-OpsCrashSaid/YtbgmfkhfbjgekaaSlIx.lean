/-
  slices.Index and slices.Contains, as the small logic says them.
-/
import Derived.Test.YtbgmfkhfbjgekaaTypes
namespace Go.Proofs.Ytbgmfkhfbjgekaa.sleq
open Go.RowKit kit sl
set_option linter.unusedVariables false
attribute [local irreducible] box own sl old bptr eptr Qt Opr Run Cod Pst Drn
/-- where p stands first, or -1 -/
def ixOf {α : Type} [DecidableEq α] (p : α) : List α → Int
  | [] => -1
  | q :: xs => if q = p then 0 else if ixOf p xs < 0 then -1 else ixOf p xs + 1
theorem ix_hit {α : Type} [DecidableEq α] {p : α} {xs : List α} {k : Nat} (h : xs[k]? = some p) (hm : p ∉ xs.take k) : ixOf p xs = (k : Int) := by
  induction xs generalizing k with
  | nil => simp at h
  | cons q xs ih =>
    cases k with
    | zero =>
      simp at h
      simp [ixOf, h]
    | succ k =>
      simp only [List.take_succ_cons, List.mem_cons, not_or] at hm
      have := ih (by simpa using h) hm.2
      have hq : ¬ q = p := fun e => hm.1 e.symm
      simp only [ixOf, if_neg hq, this]
      rw [if_neg (by omega)]
      omega
theorem ix_miss {α : Type} [DecidableEq α] {p : α} {xs : List α} (h : p ∉ xs) : ixOf p xs = -1 := by
  induction xs with
  | nil => rfl
  | cons q xs ih =>
    simp only [List.mem_cons, not_or] at h
    have hq : ¬ q = p := fun e => h.1 e.symm
    simp only [ixOf, if_neg hq, ih h.2]
    rfl
theorem ix_mem {α : Type} [DecidableEq α] {p : α} {xs : List α} (h : p ∈ xs) : 0 ≤ ixOf p xs := by
  induction xs with
  | nil => cases h
  | cons q xs ih =>
    simp only [ixOf]
    split
    · omega
    · rename_i hq
      rcases List.mem_cons.1 h with h | h
      · exact absurd h.symm hq
      · have := ih h
        rw [if_neg (by omega)]
        omega
end Go.Proofs.Ytbgmfkhfbjgekaa.sleq
