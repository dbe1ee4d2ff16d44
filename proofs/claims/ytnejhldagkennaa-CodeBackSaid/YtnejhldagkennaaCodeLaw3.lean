/-
  What is written is read as it was.
-/
import Derived.Test.YtnejhldagkennaaCodeLaw2
namespace Go.Proofs.Ytnejhldagkennaa.code
open Go.RowKit kit sl lens flip Go.Proofs.Ytnejhldagkennaa.bits
set_option linter.unusedVariables false
theorem flip_front {n c w : Nat} (hc : c < 2 ^ w) (h : n % 2 ^ w = flipN c w) {v : Nat} (hv : v ≤ w) : flipN n v = c / 2 ^ (w - v) := by
  apply Nat.eq_of_testBit_eq
  intro i
  rw [flipN_bit, Nat.testBit_div_two_pow]
  by_cases hi : i < v
  · have h1 : (n % 2 ^ w).testBit (v - 1 - i) = (flipN c w).testBit (v - 1 - i) := by rw [h]
    rw [Nat.testBit_mod_two_pow, flipN_bit, decide_eq_true (by omega : v - 1 - i < w), Bool.true_and, Bool.true_and, show w - 1 - (v - 1 - i) = w - v + i by omega] at h1
    rw [decide_eq_true hi, Bool.true_and, h1, Nat.add_comm]
  · rw [decide_eq_false hi, Bool.false_and]
    symm
    apply Nat.testBit_lt_two_pow
    exact Nat.lt_of_lt_of_le hc (Nat.pow_le_pow_right (by decide) (by omega))
theorem canon_fill {l : List Int} (h : canonE l = 0) : fillN l ≤ 32768 := by
  unfold canonE at h
  split at h
  · rename_i h9; exact absurd h h9
  · split at h
    · cases h
    · omega
theorem one_reads {l : List Int} {s : List UInt8} {k w i : Nat} (hc : canonE l = 0) (hi : l[i]? = some (w : Int)) (hw : 1 ≤ w) (hn : leN s / 2 ^ k % 2 ^ w = flipN (codeAt l i) w) (hk : k + w ≤ 8 * s.length) : one l s k = ((i : Int), k + w, 0) := by
  obtain ⟨hl, hb⟩ := canon_good hc
  have h15 : w ≤ 15 := by
    have := (hb _ (List.mem_of_getElem? hi)).2
    omega
  have hlt := code_lt hb (canon_fill hc) hi hw h15
  have hfl := canon_fill hc
  have hcode := code_pos hi (by omega)
  unfold nx at hcode
  rw [if_neg (by omega)] at hcode
  have hcn : cnt (l.take i) w + 1 ≤ cnt l w := by
    have h1 := cnt_next hi w
    rw [if_pos rfl] at h1
    have h2 := cnt_take l (i + 1) w
    omega
  have hsum := nxt_sum l w hw h15
  obtain ⟨c, hcc⟩ : ∃ c, codeAt l i = c := ⟨_, rfl⟩
  rw [hcc] at hlt hcode hn
  have hcw : c < 2 ^ w := by
    have h1 : (c + 1) * 2 ^ (15 - w) ≤ 2 ^ w * 2 ^ (15 - w) := by
      rw [← Nat.pow_add, show w + (15 - w) = 15 by omega, Nat.add_mul, Nat.one_mul]
      omega
    exact Nat.le_of_mul_le_mul_right h1 (Nat.two_pow_pos _)
  have key : ∀ f v, f + v = 16 → v ≤ w → oneF (fA l 16) (fR l 16) (fC l) (sgs l 15) s f v (flipN (leN s / 2 ^ k) v) (k + v) = ((i : Int), k + w, 0) := by
    intro f
    induction f with
    | zero => intro v h1 h2; omega
    | succ f ih =>
      intro v hv hvw
      have hA : fA l 16 v = (nxt l v : Int) := by unfold fA; rw [if_pos (by omega)]
      have hR : fR l 16 v = ((sgs l (v - 1)).length : Int) := by unfold fR; rw [if_pos (by omega)]
      have hfr := flip_front hcw hn hvw
      rw [oneF]
      rcases Nat.lt_or_ge v w with h1 | h1
      · have hC : 0 < v → fC l v = (cnt l v : Int) := fun h => by unfold fC; rw [if_neg (by omega)]
        rw [if_neg, if_neg, if_neg, Nat.add_assoc, flip_next]
        · exact ih (v + 1) (by omega) (by omega)
        · omega
        · have hlo : lonB (fA l 16) (fC l) (flipN (leN s / 2 ^ k) v) v = true := by
            refine (lonB_iff _ _ _ _).2 ⟨w, by omega, hvw, ?_⟩
            have hAw : fA l 16 w = (nxt l w : Int) := by unfold fA; rw [if_pos (by omega)]
            have hCw : fC l w = (cnt l w : Int) := by unfold fC; rw [if_neg (by omega)]
            unfold lonT
            rw [hAw, hCw, hfr]
            have g1 : c / 2 ^ (w - v) * 2 ^ (w - v) ≤ c := Nat.div_mul_le_self _ _
            have g2 : c < c / 2 ^ (w - v) * 2 ^ (w - v) + 2 ^ (w - v) := by
              have g3 := Nat.div_add_mod c (2 ^ (w - v))
              have g4 := Nat.mod_lt c (Nat.two_pow_pos (w - v))
              rw [Nat.mul_comm] at g3
              omega
            generalize c / 2 ^ (w - v) * 2 ^ (w - v) = z at *
            generalize 2 ^ (w - v) = p at *
            refine ⟨by omega, by omega, by omega⟩
          rw [hlo]
          decide
        · rintro ⟨h2, h3, h4⟩
          rw [hA, hC h2, hfr] at h4
          have h5 : nxt l v + cnt l v ≤ c / 2 ^ (w - v) := by
            rw [Nat.le_div_iff_mul_le (Nat.two_pow_pos _)]
            have h6 := nxt_sum l v (by omega) (by omega)
            have h7 := sumA_next l v (by omega)
            have h8 := sumA_mono l (v + 1) w (by omega)
            have h9 : (nxt l v + cnt l v) * 2 ^ (w - v) * 2 ^ (15 - w) ≤ c * 2 ^ (15 - w) := by
              rw [Nat.mul_assoc, ← Nat.pow_add, show w - v + (15 - w) = 15 - v by omega, Nat.add_mul, h6, ← h7]
              refine Nat.le_trans h8 ?_
              rw [← hsum]
              exact Nat.mul_le_mul_right _ (by omega)
            exact Nat.le_of_mul_le_mul_right h9 (Nat.two_pow_pos _)
          omega
      · have hvw2 : v = w := by omega
        subst hvw2
        have hC : fC l v = (cnt l v : Int) := by unfold fC; rw [if_neg (by omega)]
        rw [Nat.sub_self, Nat.pow_zero, Nat.div_one] at hfr
        rw [hA, hC, hR, hfr, if_pos (by omega)]
        have hj : cnt (l.take i) v < cnt l v := by omega
        have hil : i < l.length := (List.getElem?_eq_some_iff.1 hi).1
        rw [show (((sgs l (v - 1)).length : Int) + (c : Int) - (nxt l v : Int)).toNat = (sgs l (v - 1)).length + cnt (l.take i) v by omega, List.getD_eq_getElem?_getD, sgs_at hw h15 hj, idx_of hi l.length (Nat.le_refl _) hil]
        rfl
  exact key 16 0 rfl (Nat.zero_le _)
/-- all signs -/
theorem read_back {l : List Int} {s : List UInt8} (hc : canonE l = 0) : ∀ (t : List Int) (k : Nat) (out : List Int), (∀ x ∈ t, hasC l x) → leN s / 2 ^ k % 2 ^ total (t.map (pieceC l)) = packN (t.map (pieceC l)) → k + total (t.map (pieceC l)) ≤ 8 * s.length → readF l s t.length k out = (out ++ t, k + total (t.map (pieceC l)), 0) := by
  intro t
  induction t with
  | nil => intro k out _ _ _; simp [readF, total]
  | cons x t ih =>
    intro k out hh hnum hk
    obtain ⟨h0, h1⟩ := hh x List.mem_cons_self
    obtain ⟨i, rfl⟩ := Int.eq_ofNat_of_zero_le h0
    rw [Int.toNat_natCast] at h1
    obtain ⟨hl, hb⟩ := canon_good hc
    have hil : i < l.length := by
      rcases Nat.lt_or_ge i l.length with h | h
      · exact h
      · rw [List.getD_eq_getElem?_getD, List.getElem?_eq_none h] at h1
        exact absurd rfl h1
    obtain ⟨y, hy⟩ : ∃ y, l[i]? = some y := ⟨_, List.getElem?_eq_getElem hil⟩
    obtain ⟨y0, y15⟩ := hb y (List.mem_of_getElem? hy)
    obtain ⟨w, rfl⟩ := Int.eq_ofNat_of_zero_le y0
    have hyd : l.getD i 0 = (w : Int) := by rw [List.getD_eq_getElem?_getD, hy]; rfl
    rw [hyd] at h1
    have hp := piece_of hy
    rw [List.map_cons, total, packN, hp] at hnum
    rw [List.map_cons, total, hp] at hk ⊢
    simp only [Int.toNat_natCast] at hnum hk ⊢
    generalize hT : total (t.map (pieceC l)) = T at *
    have hfl := flipN_lt (codeAt l i) w
    have e1 : leN s / 2 ^ k % 2 ^ w = flipN (codeAt l i) w := by
      have h2 := congrArg (fun z => z % 2 ^ w) hnum
      rw [Nat.pow_add, Nat.mod_mul_right_mod, Nat.add_mul_mod_self_left, Nat.mod_eq_of_lt hfl] at h2
      exact h2
    have e2 : leN s / 2 ^ (k + w) % 2 ^ T = packN (t.map (pieceC l)) := by
      rw [Nat.pow_add 2 w T, Nat.mod_mul, e1] at hnum
      have h3 : 2 ^ w * (leN s / 2 ^ k / 2 ^ w % 2 ^ T) = 2 ^ w * packN (t.map (pieceC l)) := by omega
      have h4 := Nat.eq_of_mul_eq_mul_left (Nat.two_pow_pos w) h3
      rw [Nat.pow_add, ← Nat.div_div_eq_div_mul]
      exact h4
    have ho := one_reads hc hy (by omega) e1 (by omega)
    rw [List.length_cons, readF, ho]
    dsimp only
    rw [if_pos rfl, ih (k + w) _ (fun y hy => hh y (List.mem_cons_of_mem _ hy)) e2 (by omega)]
    simp [Nat.add_assoc]
end Go.Proofs.Ytnejhldagkennaa.code
