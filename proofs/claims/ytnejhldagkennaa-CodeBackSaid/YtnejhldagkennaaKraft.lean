/-
  The plain law of the codes: where each begins, and where all end.
-/
import Derived.Test.YtnejhldagkennaaCanon
namespace Go.Proofs.Ytnejhldagkennaa.lens
open Go.RowKit kit
set_option linter.unusedVariables false

/-- what the shorter ones take up -/
def sumA (l : List Int) : Nat → Nat
  | 0 => 0
  | w + 1 => sumA l w + (if w = 0 then 0 else cnt l w * 2 ^ (15 - w))
theorem sumA_next (l : List Int) (w : Nat) (h : 1 ≤ w) : sumA l (w + 1) = sumA l w + cnt l w * 2 ^ (15 - w) := by
  rw [sumA, if_neg (by omega)]
theorem sumA_one (l : List Int) : sumA l 1 = 0 := by simp [sumA]
theorem nxt_sum (l : List Int) : ∀ w, 1 ≤ w → w ≤ 15 → nxt l w * 2 ^ (15 - w) = sumA l w := by
  intro w
  induction w with
  | zero => intro h; omega
  | succ w ih =>
    intro h1 h15
    cases w with
    | zero => simp [nxt, sumA]
    | succ w =>
      rw [nxt_succ _ _ (by omega), sumA_next _ _ (by omega), ← ih (by omega) (by omega), Nat.mul_assoc, ← Nat.pow_succ', show (15 - (w + 1 + 1)).succ = 15 - (w + 1) from by omega, Nat.add_mul]
theorem sumA_cons (x : Int) (l : List Int) : ∀ w, sumA (x :: l) w = sumA l w + (if 1 ≤ x ∧ x < (w : Int) then 2 ^ (15 - x.toNat) else 0) := by
  intro w
  induction w with
  | zero =>
    rw [if_neg (by omega)]; rfl
  | succ w ih =>
    cases w with
    | zero => rw [if_neg (by omega)]; simp [sumA]
    | succ w =>
      rw [sumA_next _ (w + 1) (by omega), sumA_next _ (w + 1) (by omega), ih, cnt, Nat.add_mul]
      by_cases h : x = ((w + 1 : Nat) : Int)
      · subst h
        rw [if_pos rfl, if_neg (by omega), if_pos (by omega)]
        simp
        omega
      · rw [if_neg h]
        by_cases h2 : 1 ≤ x ∧ x < ((w + 1 : Nat) : Int)
        · rw [if_pos h2, if_pos (by omega)]; omega
        · rw [if_neg h2, if_neg (by omega)]; omega
theorem sumA_all : ∀ l : List Int, (∀ x ∈ l, 0 ≤ x ∧ x ≤ 15) → sumA l 16 = fillN l := by
  intro l
  induction l with
  | nil => intro _; simp [sumA, fillN, cnt]
  | cons x l ih =>
    intro h
    have hx := h x (by simp)
    rw [sumA_cons, fillN, ih (fun y hy => h y (by simp [hy])), wt]
    by_cases h0 : 0 < x
    · rw [if_pos h0, if_pos (by omega)]; omega
    · rw [if_neg h0, if_neg (by omega)]; omega
theorem sumA_mono (l : List Int) (v : Nat) : ∀ w, v ≤ w → sumA l v ≤ sumA l w := by
  intro w
  induction w with
  | zero => intro h; rw [show v = 0 from by omega]; exact Nat.le_refl _
  | succ w ih =>
    intro h
    by_cases he : v = w + 1
    · subst he; exact Nat.le_refl _
    · have := ih (by omega)
      rw [sumA]; omega
theorem cnt_take (l : List Int) (i j : Nat) : cnt (l.take i) j ≤ cnt l j := by
  have := cnt_app (l.take i) (l.drop i) j
  rw [List.take_append_drop] at this
  omega
/-- where the walk over all codes stands -/
def atS (l : List Int) (w i : Nat) : Nat := sumA l w + cnt (l.take i) w * 2 ^ (15 - w)
theorem atS_next {l : List Int} {i : Nat} {x : Int} (hp : l[i]? = some x) (w : Nat) : atS l w (i + 1) = atS l w i + (if x = (w : Int) then 2 ^ (15 - w) else 0) := by
  unfold atS
  rw [cnt_next hp, Nat.add_mul]
  split <;> simp <;> omega
theorem atS_end (l : List Int) (w : Nat) (h : 1 ≤ w) : atS l w l.length = atS l (w + 1) 0 := by
  unfold atS
  rw [List.take_length, sumA_next _ _ h]
  simp [cnt]
theorem atS_code {l : List Int} {i w : Nat} (hp : l[i]? = some (w : Int)) (h1 : 1 ≤ w) (h15 : w ≤ 15) : codeAt l i * 2 ^ (15 - w) = atS l w i := by
  rw [code_pos hp (by omega), nx, if_neg (by omega), Nat.add_mul, nxt_sum l w h1 h15, atS]
theorem atS_le (l : List Int) (hl : ∀ x ∈ l, 0 ≤ x ∧ x ≤ 15) (w i : Nat) (h1 : 1 ≤ w) (h15 : w ≤ 15) : atS l w i ≤ fillN l := by
  have h := sumA_mono l (w + 1) 16 (by omega)
  rw [sumA_all l hl, sumA_next _ _ h1] at h
  have h2 := Nat.mul_le_mul_right (2 ^ (15 - w)) (cnt_take l i w)
  unfold atS
  omega
/-- a code is no longer than it says, and no code begins with another -/
theorem code_lt {l : List Int} (hl : ∀ x ∈ l, 0 ≤ x ∧ x ≤ 15) (hf : fillN l ≤ 32768) {i w : Nat} (hp : l[i]? = some (w : Int)) (h1 : 1 ≤ w) (h15 : w ≤ 15) : codeAt l i * 2 ^ (15 - w) + 2 ^ (15 - w) ≤ fillN l := by
  have h := atS_next hp w
  rw [if_pos rfl] at h
  have h2 := atS_le l hl w (i + 1) h1 h15
  rw [atS_code hp h1 h15]
  omega
end Go.Proofs.Ytnejhldagkennaa.lens
