/-
  What is read is written as just those bits.
-/
import Derived.Test.YtnejhldagkennaaCodeLaw
namespace Go.Proofs.Ytnejhldagkennaa.code
open Go.RowKit kit sl lens flip Go.Proofs.Ytnejhldagkennaa.bits
set_option linter.unusedVariables false
theorem piece_of {l : List Int} {i v : Nat} (h : l[i]? = some (v : Int)) : pieceC l (i : Int) = (((flipN (codeAt l i) v : Nat) : Int), (v : Int)) := by
  have hd : l.getD i 0 = (v : Int) := by rw [List.getD_eq_getElem?_getD, h]; rfl
  unfold pieceC
  rw [Int.toNat_natCast, hd, Int.toNat_natCast]
theorem hasC_of {l : List Int} {i v : Nat} (h : l[i]? = some (v : Int)) (hv : 1 ≤ v) : hasC l (i : Int) := by
  have hd : l.getD i 0 = (v : Int) := by rw [List.getD_eq_getElem?_getD, h]; rfl
  unfold hasC
  rw [Int.toNat_natCast, hd]
  omega
theorem wrF_all {l : List Int} (t : List Int) : ∀ out, (∀ x ∈ t, hasC l x) → wrF l t out = (out ++ t.map (pieceC l), 0) := by
  induction t with
  | nil => intro out _; simp [wrF]
  | cons x t ih =>
    intro out h
    rw [wrF, if_pos (h x List.mem_cons_self), ih _ fun y hy => h y (List.mem_cons_of_mem _ hy)]
    simp
/-- signs that are read, and the bits that say them -/
structure Said (l : List Int) (s : List UInt8) (k k2 n : Nat) (t : List Int) : Prop where
  len : t.length = n
  has : ∀ x ∈ t, hasC l x
  le : k ≤ k2
  tot : total (t.map (pieceC l)) = k2 - k
  num : packN (t.map (pieceC l)) = leN s / 2 ^ k % 2 ^ (k2 - k)
  err : firstErr (t.map (pieceC l)) = 0
  bd : total (t.map (pieceC l)) ≤ 15 * n
  pc : ∀ x ∈ t, ∃ a v : Nat, a < 32768 ∧ v ≤ 15 ∧ pieceC l x = ((a : Int), (v : Int))
theorem read_said {l : List Int} {s : List UInt8} : ∀ (n k k2 : Nat) (out r : List Int), readF l s n k out = (r, k2, 0) → ∃ t, r = out ++ t ∧ Said l s k k2 n t := by
  intro n
  induction n with
  | zero =>
    intro k k2 out r h
    rw [readF] at h
    cases h
    exact ⟨[], by simp, rfl, by simp, Nat.le_refl _, by simp [total], by rw [Nat.sub_self, Nat.pow_zero, Nat.mod_one]; rfl, rfl, by simp [total], by simp⟩
  | succ n ih =>
    intro k k2 out r h
    rw [readF] at h
    split at h
    · rename_i h1
      rcases ho : one l s k with ⟨x, k1, e⟩
      rw [ho] at h h1
      dsimp only at h h1
      subst h1
      unfold one at ho
      obtain ⟨v, i, v1, v15, hk1, rfl, hi, hc⟩ := one_says 16 0 rfl (by rw [Nat.add_zero]; exact ho)
      obtain ⟨t, h2, h3⟩ := ih k1 k2 _ _ h
      have hp := piece_of hi
      have hf : flipN (codeAt l i) v = leN s / 2 ^ k % 2 ^ v := by rw [hc, flipN_twice]
      have hle := h3.le
      have htot := h3.tot
      have hbd := h3.bd
      refine ⟨(i : Int) :: t, by rw [h2]; simp, by rw [List.length_cons, h3.len], ?_, by omega, ?_, ?_, ?_, ?_, ?_⟩
      · intro y hy
        rcases List.mem_cons.1 hy with rfl | hy
        · exact hasC_of hi v1
        · exact h3.has y hy
      · rw [List.map_cons, total, hp, htot]
        simp only [Int.toNat_natCast]
        omega
      · rw [List.map_cons, packN, hp, h3.num, hf]
        simp only [Int.toNat_natCast]
        rw [hk1, Nat.pow_add, ← Nat.div_div_eq_div_mul, show k2 - k = v + (k2 - k1) by omega, Nat.pow_add, Nat.mod_mul, hk1]
      · rw [List.map_cons, firstErr, hp, pieceErr_of _ _ (by omega), if_pos (flipN_lt _ _), if_pos rfl]
        exact h3.err
      · rw [List.map_cons, total, hp]
        simp only [Int.toNat_natCast]
        omega
      · intro y hy
        rcases List.mem_cons.1 hy with rfl | hy
        · refine ⟨_, v, ?_, v15, hp⟩
          have h5 := flipN_lt (codeAt l i) v
          have h6 : 2 ^ v ≤ 2 ^ 15 := Nat.pow_le_pow_right (by decide) v15
          omega
        · exact h3.pc y hy
    · rename_i h1
      have h9 := congrArg (fun r => r.2.2) h
      exact absurd h9 h1
theorem said_pack {l : List Int} {s : List UInt8} {k2 n : Nat} {t : List Int} (h : Said l s 0 k2 n t) (hn : n ≤ 2000) : packErr (t.map (pieceC l)) = 0 ∧ packB (t.map (pieceC l)) = toLE (leN s % 2 ^ k2) ((k2 + 7) / 8) := by
  have h1 := h.tot
  have h2 := h.bd
  have h3 := h.num
  rw [Nat.sub_zero] at h1 h3
  rw [Nat.pow_zero, Nat.div_one] at h3
  refine ⟨?_, ?_⟩
  · unfold packErr
    rw [h.err, if_neg (by simp), if_neg (by omega)]
  · unfold packB
    rw [h3, h1]
/-- the bits of a text -/
def bitsL (s : List UInt8) : List Int := (List.range (8 * s.length)).map fun k => ((bitS s k : Nat) : Int)
theorem bitsL_len (s : List UInt8) : (bitsL s).length = 8 * s.length := by simp [bitsL]
theorem bits_same {s t : List UInt8} {k2 : Nat} (ht : t = toLE (leN s % 2 ^ k2) ((k2 + 7) / 8)) (hk : k2 ≤ 8 * s.length) : (bitsL t).take k2 = (bitsL s).take k2 := by
  have hl : t.length = (k2 + 7) / 8 := by rw [ht, toLE_len]
  have hN : leN t = leN s % 2 ^ k2 := by
    rw [ht, leN_toLE]
    apply Nat.mod_eq_of_lt
    have h1 : leN s % 2 ^ k2 < 2 ^ k2 := Nat.mod_lt _ (Nat.two_pow_pos _)
    have h2 : (256 : Nat) ^ ((k2 + 7) / 8) = 2 ^ (8 * ((k2 + 7) / 8)) := by rw [Nat.pow_mul]
    have h3 : 2 ^ k2 ≤ 2 ^ (8 * ((k2 + 7) / 8)) := Nat.pow_le_pow_right (by decide) (by omega)
    omega
  apply List.ext_getElem?
  intro j
  rw [List.getElem?_take, List.getElem?_take]
  split
  · rename_i hj
    unfold bitsL
    rw [List.getElem?_map, List.getElem?_map, List.getElem?_range (by omega), List.getElem?_range (by omega)]
    have : bitS t j = bitS s j := by
      rw [bit_num, bit_num, hN]
      have h1 := Nat.testBit_mod_two_pow (leN s) k2 j
      rw [decide_eq_true hj, Bool.true_and, Nat.testBit_eq_decide_div_mod_eq, Nat.testBit_eq_decide_div_mod_eq, decide_eq_decide] at h1
      have h2 := Nat.mod_lt (leN s % 2 ^ k2 / 2 ^ j) (by decide : 0 < 2)
      have h3 := Nat.mod_lt (leN s / 2 ^ j) (by decide : 0 < 2)
      omega
    simp [this]
  · rfl
end Go.Proofs.Ytnejhldagkennaa.code
