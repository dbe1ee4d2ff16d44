/-
  code.Make, (*Book).longer, (*Book).One: the walks.
-/
import Derived.Test.YtppnaofebkpbkaaCanonCt
namespace Go.Proofs.Ytppnaofebkpbkaa.code
open Go.RowKit kit sl lens
set_option linter.unusedVariables false
instance : Arr Try.prog 96 16 3 := ⟨by kernel_rfl⟩
/-- the cells of a book -/
def bkC (q : Value) (A R C : Nat → Int) : List Value := q :: ((List.range 16).map fun i => Value.int .i64 (A i)) ++ ((List.range 16).map fun i => Value.int .i64 (R i)) ++ ((List.range 16).map fun i => Value.int .i64 (C i))
theorem bk_len (q : Value) (A R C : Nat → Int) : (bkC q A R C).length = 49 := rfl
theorem bk_q (q : Value) (A R C : Nat → Int) : (bkC q A R C)[0]? = some q := rfl
theorem bk_A {q : Value} {A R C : Nat → Int} {i : Nat} (h : i < 16) : (bkC q A R C)[1 + i]? = some (.int .i64 (A i)) := by
  obtain rfl | rfl | rfl | rfl | rfl | rfl | rfl | rfl | rfl | rfl | rfl | rfl | rfl | rfl | rfl | rfl : i = 0 ∨ i = 1 ∨ i = 2 ∨ i = 3 ∨ i = 4 ∨ i = 5 ∨ i = 6 ∨ i = 7 ∨ i = 8 ∨ i = 9 ∨ i = 10 ∨ i = 11 ∨ i = 12 ∨ i = 13 ∨ i = 14 ∨ i = 15 := by omega
  all_goals rfl
theorem bk_R {q : Value} {A R C : Nat → Int} {i : Nat} (h : i < 16) : (bkC q A R C)[17 + i]? = some (.int .i64 (R i)) := by
  obtain rfl | rfl | rfl | rfl | rfl | rfl | rfl | rfl | rfl | rfl | rfl | rfl | rfl | rfl | rfl | rfl : i = 0 ∨ i = 1 ∨ i = 2 ∨ i = 3 ∨ i = 4 ∨ i = 5 ∨ i = 6 ∨ i = 7 ∨ i = 8 ∨ i = 9 ∨ i = 10 ∨ i = 11 ∨ i = 12 ∨ i = 13 ∨ i = 14 ∨ i = 15 := by omega
  all_goals rfl
theorem bk_C {q : Value} {A R C : Nat → Int} {i : Nat} (h : i < 16) : (bkC q A R C)[33 + i]? = some (.int .i64 (C i)) := by
  obtain rfl | rfl | rfl | rfl | rfl | rfl | rfl | rfl | rfl | rfl | rfl | rfl | rfl | rfl | rfl | rfl : i = 0 ∨ i = 1 ∨ i = 2 ∨ i = 3 ∨ i = 4 ∨ i = 5 ∨ i = 6 ∨ i = 7 ∨ i = 8 ∨ i = 9 ∨ i = 10 ∨ i = 11 ∨ i = 12 ∨ i = 13 ∨ i = 14 ∨ i = 15 := by omega
  all_goals rfl
def upf (A : Nat → Int) (i : Nat) (x : Int) : Nat → Int := fun j => if j = i then x else A j
theorem bk_setq (q q' : Value) (A R C : Nat → Int) : (bkC q A R C).set 0 q' = bkC q' A R C := rfl
theorem bk_setA {q : Value} {A R C : Nat → Int} {i : Nat} {x : Int} (h : i < 16) : (bkC q A R C).set (1 + i) (.int .i64 x) = bkC q (upf A i x) R C := by
  obtain rfl | rfl | rfl | rfl | rfl | rfl | rfl | rfl | rfl | rfl | rfl | rfl | rfl | rfl | rfl | rfl : i = 0 ∨ i = 1 ∨ i = 2 ∨ i = 3 ∨ i = 4 ∨ i = 5 ∨ i = 6 ∨ i = 7 ∨ i = 8 ∨ i = 9 ∨ i = 10 ∨ i = 11 ∨ i = 12 ∨ i = 13 ∨ i = 14 ∨ i = 15 := by omega
  all_goals rfl
theorem bk_setR {q : Value} {A R C : Nat → Int} {i : Nat} {x : Int} (h : i < 16) : (bkC q A R C).set (17 + i) (.int .i64 x) = bkC q A (upf R i x) C := by
  obtain rfl | rfl | rfl | rfl | rfl | rfl | rfl | rfl | rfl | rfl | rfl | rfl | rfl | rfl | rfl | rfl : i = 0 ∨ i = 1 ∨ i = 2 ∨ i = 3 ∨ i = 4 ∨ i = 5 ∨ i = 6 ∨ i = 7 ∨ i = 8 ∨ i = 9 ∨ i = 10 ∨ i = 11 ∨ i = 12 ∨ i = 13 ∨ i = 14 ∨ i = 15 := by omega
  all_goals rfl
theorem bk_setC {q : Value} {A R C : Nat → Int} {i : Nat} {x : Int} (h : i < 16) : (bkC q A R C).set (33 + i) (.int .i64 x) = bkC q A R (upf C i x) := by
  obtain rfl | rfl | rfl | rfl | rfl | rfl | rfl | rfl | rfl | rfl | rfl | rfl | rfl | rfl | rfl | rfl : i = 0 ∨ i = 1 ∨ i = 2 ∨ i = 3 ∨ i = 4 ∨ i = 5 ∨ i = 6 ∨ i = 7 ∨ i = 8 ∨ i = 9 ∨ i = 10 ∨ i = 11 ∨ i = 12 ∨ i = 13 ∨ i = 14 ∨ i = 15 := by omega
  all_goals rfl
/-- signs of one length, of the first k -/
def idx (l : List Int) (w k : Nat) : List Int := ((List.range k).filter fun i => l[i]? = some (w : Int)).map fun i : Nat => (i : Int)
theorem idx_zero (l : List Int) (w : Nat) : idx l w 0 = [] := rfl
theorem idx_next {l : List Int} {w k : Nat} {x : Int} (h : l[k]? = some x) : idx l w (k + 1) = if x = (w : Int) then idx l w k ++ [(k : Int)] else idx l w k := by
  unfold idx
  rw [List.range_succ, List.filter_append, List.map_append]
  by_cases hx : x = (w : Int)
  · rw [if_pos hx]; simp [h, hx]
  · rw [if_neg hx]; simp [h, hx]
theorem idx_len (l : List Int) (w k : Nat) : (idx l w k).length ≤ k := by
  unfold idx
  rw [List.length_map]
  have := List.length_filter_le (fun i => decide (l[i]? = some (w : Int))) (List.range k)
  simpa using this
/-- signs of all lengths up to w -/
def sgs (l : List Int) : Nat → List Int
  | 0 => []
  | w + 1 => sgs l w ++ idx l (w + 1) l.length
theorem sgs_len (l : List Int) (w : Nat) : (sgs l w).length ≤ w * l.length := by
  induction w with
  | zero => simp [sgs]
  | succ w ih =>
    rw [sgs, List.length_append, Nat.add_mul]
    have := idx_len l (w + 1) l.length
    omega
def fA (l : List Int) (w j : Nat) : Int := if j < w then (nxt l j : Int) else 0
def fR (l : List Int) (w j : Nat) : Int := if j < w then ((sgs l (j - 1)).length : Int) else 0
def fC (l : List Int) (j : Nat) : Int := if j = 0 then 0 else (cnt l j : Int)
def cntZ (l : List Int) (j : Nat) : Int := (cnt l j : Int)
theorem fC_le (l : List Int) (j : Nat) : 0 ≤ fC l j ∧ fC l j ≤ (l.length : Int) := by
  unfold fC
  have := cnt_le l j
  split <;> omega
theorem fA_next (l : List Int) (w : Nat) : upf (fA l w) w (nxt l w : Int) = fA l (w + 1) := by
  funext j
  unfold upf fA
  by_cases h : j = w
  · subst h; rw [if_pos rfl, if_pos (by omega)]
  · rw [if_neg h]
    by_cases h2 : j < w
    · rw [if_pos h2, if_pos (by omega)]
    · rw [if_neg h2, if_neg (by omega)]
theorem fR_next (l : List Int) (w : Nat) : upf (fR l w) w ((sgs l (w - 1)).length : Int) = fR l (w + 1) := by
  funext j
  unfold upf fR
  by_cases h : j = w
  · subst h; rw [if_pos rfl, if_pos (by omega)]
  · rw [if_neg h]
    by_cases h2 : j < w
    · rw [if_pos h2, if_pos (by omega)]
    · rw [if_neg h2, if_neg (by omega)]
theorem cntZ_next {l : List Int} {k m : Nat} (h : l[k]? = some (m : Int)) : upf (cntZ (l.take k)) m (cntZ (l.take k) m + 1) = cntZ (l.take (k + 1)) := by
  funext j
  unfold upf cntZ
  rw [cnt_next h]
  by_cases hj : j = m
  · subst hj; rw [if_pos rfl, if_pos rfl]; omega
  · rw [if_neg hj, if_neg (by omega)]; omega
theorem cntZ_cut (l : List Int) : upf (cntZ l) 0 0 = fC l := by
  funext j
  unfold upf cntZ fC
  rfl
theorem nxt_fC (l : List Int) {w : Nat} (h : 1 ≤ w) : ((nxt l (w - 1) : Int) + fC l (w - 1)) * 2 = (nxt l w : Int) := by
  obtain ⟨v, rfl⟩ : ∃ v, w = v + 1 := ⟨w - 1, by omega⟩
  rw [Nat.add_sub_cancel]
  cases v with
  | zero => simp [nxt, fC]
  | succ v => simp [nxt, fC]
end Go.Proofs.Ytppnaofebkpbkaa.code
