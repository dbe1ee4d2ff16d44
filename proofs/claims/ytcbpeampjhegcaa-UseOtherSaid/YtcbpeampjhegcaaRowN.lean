/-
  Rows of numbers, as functions. Nothing here speaks of the program.
-/
import Derived.Test.YtcbpeampjhegcaaSlLend
namespace Go.Proofs.Ytcbpeampjhegcaa.sl
set_option linter.unusedVariables false
def rowN (n : Nat) (B : Nat → Nat) : List Int := (List.range n).map fun i => (B i : Int)
def upd1 (B : Nat → Nat) (i v : Nat) : Nat → Nat := fun j => if j = i then v else B j
theorem rowN_len (n : Nat) (B : Nat → Nat) : (rowN n B).length = n := by simp [rowN]
theorem rowN_at {n i : Nat} (B : Nat → Nat) (h : i < n) : (rowN n B)[i]? = some ((B i : Nat) : Int) := by
  unfold rowN
  rw [List.getElem?_map, List.getElem?_range h]
  rfl
theorem rowN_set {n i : Nat} (B : Nat → Nat) (v : Nat) (h : i < n) : (rowN n B).set i (v : Int) = rowN n (upd1 B i v) := by
  apply List.ext_getElem?
  intro j
  rw [List.getElem?_set]
  rcases Nat.lt_or_ge j n with hj | hj
  · rw [rowN_at _ hj, rowN_at _ hj]
    unfold upd1
    by_cases e : i = j
    · subst e
      rw [if_pos rfl, if_pos (by rw [rowN_len]; exact h), if_pos rfl]
    · rw [if_neg e, if_neg (fun h => e h.symm)]
  · rw [if_neg (by omega), List.getElem?_eq_none (by rw [rowN_len]; exact hj), List.getElem?_eq_none (by rw [rowN_len]; exact hj)]
theorem rowN_zero (n : Nat) : List.replicate n (0 : Int) = rowN n (fun _ => 0) := by
  apply List.ext_getElem?
  intro j
  rcases Nat.lt_or_ge j n with hj | hj
  · rw [rowN_at _ hj, List.getElem?_replicate, if_pos hj]; rfl
  · rw [List.getElem?_eq_none (by simpa using hj), List.getElem?_eq_none (by rw [rowN_len]; exact hj)]
theorem upd1_self (B : Nat → Nat) (i : Nat) : upd1 B i (B i) = B := by
  funext j
  unfold upd1
  split
  · rename_i h; rw [h]
  · rfl
theorem upd1_upd1 (B : Nat → Nat) (i v w : Nat) : upd1 (upd1 B i v) i w = upd1 B i w := by
  funext j
  unfold upd1
  split <;> rfl
theorem upd1_at (B : Nat → Nat) (i v : Nat) : upd1 B i v i = v := by unfold upd1; rw [if_pos rfl]
theorem upd1_ne (B : Nat → Nat) {i j : Nat} (v : Nat) (h : j ≠ i) : upd1 B i v j = B j := by unfold upd1; rw [if_neg h]
end Go.Proofs.Ytcbpeampjhegcaa.sl
