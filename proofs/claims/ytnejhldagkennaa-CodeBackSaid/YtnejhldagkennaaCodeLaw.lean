/-
  Codes as numbers: what is read is the code that is written.
-/
import Derived.Test.YtnejhldagkennaaCodeWrite
import Derived.Test.YtnejhldagkennaaFrom
import Derived.Test.YtnejhldagkennaaPack
import Derived.Test.YtnejhldagkennaaKraft
namespace Go.Proofs.Ytnejhldagkennaa.code
open Go.RowKit kit sl lens flip Go.Proofs.Ytnejhldagkennaa.bits
set_option linter.unusedVariables false
theorem bit_num (s : List UInt8) (k : Nat) : bitS s k = leN s / 2 ^ k % 2 := by
  unfold bitS
  rcases Nat.lt_or_ge (k / 8) s.length with h | h
  · have hb : s[k / 8]? = some s[k / 8] := List.getElem?_eq_getElem h
    have h1 := leN_byte s (k / 8) (k % 8) 1 _ hb (by omega)
    rw [Nat.div_add_mod, Nat.pow_one] at h1
    rw [h1, List.getD_eq_getElem?_getD, hb]
    rfl
  · have h1 := leN_lt s
    have h2 : (256 : Nat) ^ s.length = 2 ^ (8 * s.length) := by rw [Nat.pow_mul]
    have h3 : 2 ^ (8 * s.length) ≤ 2 ^ k := Nat.pow_le_pow_right (by decide) (by omega)
    have h4 : leN s / 2 ^ k = 0 := Nat.div_eq_of_lt (by omega)
    rw [List.getD_eq_getElem?_getD, List.getElem?_eq_none h, h4]
    simp
/-- the signs of one length -/
theorem idx_at {l : List Int} {w : Nat} : ∀ k, k ≤ l.length → ∀ j x, (idx l w k)[j]? = some x → ∃ i : Nat, x = (i : Int) ∧ i < k ∧ l[i]? = some (w : Int) ∧ cnt (l.take i) w = j := by
  intro k
  induction k with
  | zero => intro _ j x h; rw [idx_zero] at h; simp at h
  | succ k ih =>
    intro hk j x h
    obtain ⟨y, hy⟩ : ∃ y, l[k]? = some y := ⟨_, List.getElem?_eq_getElem (by omega)⟩
    rw [idx_next hy] at h
    split at h
    · rename_i hyw
      rcases Nat.lt_or_ge j (idx l w k).length with hj | hj
      · rw [List.getElem?_append_left hj] at h
        obtain ⟨i, h1, h2, h3, h4⟩ := ih (by omega) j x h
        exact ⟨i, h1, by omega, h3, h4⟩
      · rw [List.getElem?_append_right hj] at h
        have hj0 : j - (idx l w k).length = 0 := by
          have := (List.getElem?_eq_some_iff.1 h).1
          simpa using this
        rw [hj0] at h
        have hx := Option.some.inj h
        exact ⟨k, hx.symm, by omega, by rw [hy, hyw], by rw [← idx_cnt l w k (by omega)]; omega⟩
    · obtain ⟨i, h1, h2, h3, h4⟩ := ih (by omega) j x h
      exact ⟨i, h1, by omega, h3, h4⟩
theorem idx_of {l : List Int} {w i : Nat} (hi : l[i]? = some (w : Int)) : ∀ k, k ≤ l.length → i < k → (idx l w k)[cnt (l.take i) w]? = some (i : Int) := by
  intro k
  induction k with
  | zero => intro _ h; omega
  | succ k ih =>
    intro hk hik
    obtain ⟨y, hy⟩ : ∃ y, l[k]? = some y := ⟨_, List.getElem?_eq_getElem (by omega)⟩
    rw [idx_next hy]
    rcases Nat.lt_or_ge i k with h | h
    · have h1 := ih (by omega) h
      split
      · rw [List.getElem?_append_left (List.getElem?_eq_some_iff.1 h1).1]; exact h1
      · exact h1
    · have hik2 : i = k := by omega
      subst hik2
      rw [hy] at hi
      rw [if_pos (Option.some.inj hi), ← idx_cnt l w i (by omega), List.getElem?_append_right (Nat.le_refl _), Nat.sub_self]
      rfl
theorem sgs_at {l : List Int} {w j : Nat} (h1 : 1 ≤ w) (h15 : w ≤ 15) (hj : j < cnt l w) : (sgs l 15)[(sgs l (w - 1)).length + j]? = (idx l w l.length)[j]? := by
  have hl : (idx l w l.length).length = cnt l w := by have := idx_cnt l w l.length (Nat.le_refl _); rwa [List.take_length] at this
  have key : ∀ b, w ≤ b → (sgs l b)[(sgs l (w - 1)).length + j]? = (idx l w l.length)[j]? := by
    intro b
    induction b with
    | zero => intro h; omega
    | succ b ih =>
      intro h
      rw [sgs]
      rcases Nat.lt_or_ge w (b + 1) with h2 | h2
      · rw [List.getElem?_append_left, ih (by omega)]
        have h3 := sgs_mono l w b (by omega)
        have h4 : sgs l w = sgs l (w - 1) ++ idx l w l.length := by
          obtain ⟨v, rfl⟩ : ∃ v, w = v + 1 := ⟨w - 1, by omega⟩
          rfl
        rw [h4, List.length_append, hl] at h3
        omega
      · have h3 : w = b + 1 := by omega
        subst h3
        rw [Nat.add_sub_cancel, List.getElem?_append_right (by omega), Nat.add_sub_cancel_left]
  exact key 15 h15
theorem flip_mod (n : Nat) : ∀ w, flipN (n % 2 ^ w) w = flipN n w := by
  intro w
  apply Nat.eq_of_testBit_eq
  intro i
  rw [flipN_bit, flipN_bit, Nat.testBit_mod_two_pow]
  by_cases h : i < w
  · have h2 : w - 1 - i < w := by omega
    simp [h, h2]
  · simp [h]
theorem flip_next (s : List UInt8) (k w : Nat) : flipN (leN s / 2 ^ k) w * 2 + bitS s (k + w) = flipN (leN s / 2 ^ k) (w + 1) := by
  rw [bit_num, flipN, Nat.div_div_eq_div_mul, ← Nat.pow_add]
/-- what one sign says -/
theorem one_says {l : List Int} {s : List UInt8} {k x : Nat} {y : Int} : ∀ f w, f + w = 16 → oneF (fA l 16) (fR l 16) (fC l) (sgs l 15) s f w (flipN (leN s / 2 ^ k) w) (k + w) = (y, x, 0) →
    ∃ v i : Nat, 1 ≤ v ∧ v ≤ 15 ∧ x = k + v ∧ y = (i : Int) ∧ l[i]? = some (v : Int) ∧ codeAt l i = flipN (leN s / 2 ^ k) v := by
  intro f
  induction f with
  | zero => intro w _ h; exact absurd (congrArg (fun r => r.2.2) h) (by simp [oneF])
  | succ f ih =>
    intro w hw h
    rw [oneF] at h
    split at h
    · rename_i h1
      obtain ⟨h2, h3, h4⟩ := h1
      have hA : fA l 16 w = (nxt l w : Int) := by unfold fA; rw [if_pos (by omega)]
      have hR : fR l 16 w = ((sgs l (w - 1)).length : Int) := by unfold fR; rw [if_pos (by omega)]
      have hC : fC l w = (cnt l w : Int) := by unfold fC; rw [if_neg (by omega)]
      rw [hA] at h3
      rw [hA, hC] at h4
      have e1 := congrArg (fun r => r.1) h
      have e2 := congrArg (fun r => r.2.1) h
      dsimp only at e1 e2
      rw [hR, hA] at e1
      obtain ⟨j, hj⟩ : ∃ j, flipN (leN s / 2 ^ k) w = nxt l w + j := ⟨flipN (leN s / 2 ^ k) w - nxt l w, by omega⟩
      rw [hj] at e1 h3 h4
      have hjl : j < cnt l w := by omega
      rw [show (((sgs l (w - 1)).length : Int) + ((nxt l w + j : Nat) : Int) - (nxt l w : Int)).toNat = (sgs l (w - 1)).length + j by omega, List.getD_eq_getElem?_getD, sgs_at (by omega) (by omega) hjl] at e1
      have hl : (idx l w l.length).length = cnt l w := by have := idx_cnt l w l.length (Nat.le_refl _); rwa [List.take_length] at this
      obtain ⟨z, hz⟩ : ∃ z, (idx l w l.length)[j]? = some z := ⟨_, List.getElem?_eq_getElem (by omega)⟩
      obtain ⟨i, g1, g2, g3, g4⟩ := idx_at l.length (Nat.le_refl _) j z hz
      rw [hz] at e1
      refine ⟨w, i, by omega, by omega, by omega, by rw [← e1, ← g1]; rfl, g3, ?_⟩
      rw [code_pos g3 (by omega), hj]
      unfold nx
      rw [if_neg (by omega), g4]
    · split at h
      · exact absurd (congrArg (fun r => r.2.2) h) (by simp)
      · split at h
        · exact absurd (congrArg (fun r => r.2.2) h) (by simp)
        · rw [Nat.add_assoc, flip_next] at h
          exact ih (w + 1) (by omega) h
end Go.Proofs.Ytnejhldagkennaa.code
