/-
  huff: more bits never cost more; no more than a code of one length; as many signs as a power of two, all equally often (no program).
-/
import Derived.Test.YtppnaofebkpbkaaHuffCost
namespace Go.Proofs.Ytppnaofebkpbkaa.huff
open Go.RowKit kit sl Go.Proofs.Ytppnaofebkpbkaa.pm
set_option linter.unusedVariables false
theorem pow_one {M x : Nat} (h : x ≤ M) : 2 ^ (M + 1 - x) = 2 ^ (M - x) * 2 := by rw [show M + 1 - x = (M - x) + 1 by omega, Nat.pow_succ]
theorem right_up {F : List Int} {M : Nat} {l : Nat → Nat} (h : Right F M l) : Right F (M + 1) l := by
  refine ⟨fun i hi => by have := h.1 i hi; omega, ?_⟩
  have e : sumN (fun i => 2 ^ (M + 1 - l i)) (posF F F.length) = sumN (fun i => 2 ^ (M - l i)) (posF F F.length) * 2 := by
    rw [sumN_mul]
    exact sumN_congr fun i hi => pow_one (h.1 i hi).2
  rw [e, Nat.pow_succ]
  exact Nat.mul_le_mul_right _ h.2
theorem lens_up {F : List Int} {most : Int} (h : lensE F most = 0) (h2 : most < 15) : lensE F (most + 1) = 0 := by
  obtain ⟨hg, h1, h15, hn⟩ := lensE_zero h
  unfold lensE
  rw [if_neg (by rw [chk_zero.2 hg]; simp), if_neg (by omega), show (most + 1).toNat = most.toNat + 1 by omega, Nat.pow_succ, if_neg (by have := Nat.two_pow_pos most.toNat; omega)]
theorem cost_up {F : List Int} {most : Int} (h : lensE F most = 0) (h2 : most < 15) : costC F (most + 1) ≤ costC F most := by
  obtain ⟨l, hok, e, _⟩ := cost_is h
  obtain ⟨l', hok', e', _⟩ := cost_is (lens_up h h2)
  rw [e, e']
  refine hok'.least l ?_
  have h1 := (lensE_zero h).2.1
  rw [show (most + 1).toNat = most.toNat + 1 by omega]
  exact right_up hok.right
theorem sumI_mul (f : Nat → Int) (c : Int) : ∀ l, sumI f l * c = sumI (fun i => f i * c) l
  | [] => Int.zero_mul c
  | i :: l => by simp only [sumI, Int.add_mul, sumI_mul f c l]
theorem cost_flat {F : List Int} {most : Int} {w : Nat} (h : lensE F most = 0) (hw : 1 ≤ w) (hs : w = 1 ∨ 2 ^ (w - 1) < (posF F F.length).length) (hb : (posF F F.length).length ≤ 2 ^ w) : costC F most ≤ sumI (wF F) (posF F F.length) * (w : Int) := by
  obtain ⟨l, hok, e, _⟩ := cost_is h
  obtain ⟨hg, h1, h15, hn⟩ := lensE_zero h
  have hwM : w ≤ most.toNat := by
    rcases hs with hs | hs
    · omega
    · rcases Nat.lt_or_ge most.toNat w with g | g
      · have := Nat.pow_le_pow_right (n := 2) (by decide) (by omega : most.toNat ≤ w - 1)
        omega
      · exact g
  rw [e, sumI_mul]
  refine hok.least (fun _ => w) ⟨fun i _ => ⟨hw, hwM⟩, ?_⟩
  show sumN (fun _ => 2 ^ (most.toNat - w)) _ ≤ _
  rw [sumN_const]
  refine Nat.le_trans (Nat.mul_le_mul (Nat.le_refl _) hb) ?_
  rw [← Nat.pow_add]
  exact Nat.pow_le_pow_right (by decide) (by omega)
theorem curve : ∀ a : Fin 15, ∀ K : Fin 15, ((2 : Int) ^ K.val * (4 + 3 * ((a.val : Int) - (K.val : Int))) ≤ 4 * 2 ^ a.val) ∧ (a ≠ K → (2 : Int) ^ K.val * (4 + 3 * ((a.val : Int) - (K.val : Int))) < 4 * 2 ^ a.val) := by decide +kernel
theorem sum_strict {f g : Nat → Int} : ∀ {l : List Nat}, (∀ i ∈ l, f i ≤ g i) → (∃ i ∈ l, f i < g i) → sumI f l < sumI g l
  | [], _, h => by obtain ⟨i, hi, _⟩ := h; cases hi
  | x :: l, h, h2 => by
    have h3 := h x List.mem_cons_self
    have h4 : sumI f l ≤ sumI g l := by
      have : ∀ l : List Nat, (∀ i ∈ l, f i ≤ g i) → sumI f l ≤ sumI g l := fun l => by
        induction l with
        | nil => intro _; exact Int.le_refl _
        | cons y l ih =>
          intro h
          have a1 := h y List.mem_cons_self
          have a2 := ih fun i hi => h i (List.mem_cons_of_mem _ hi)
          simp only [sumI]
          omega
      exact this l fun i hi => h i (List.mem_cons_of_mem _ hi)
    obtain ⟨i, hi, h5⟩ := h2
    simp only [sumI]
    rcases List.mem_cons.1 hi with rfl | hi
    · omega
    · have := sum_strict (fun j hj => h j (List.mem_cons_of_mem _ hj)) ⟨i, hi, h5⟩
      omega
theorem sumI_const (c : Int) : ∀ l, sumI (fun _ => c) l = c * (l.length : Int)
  | [] => by simp [sumI]
  | i :: l => by
    simp only [sumI, sumI_const c l, List.length_cons, Int.natCast_add, Int.mul_add]
    omega
theorem sumI_cast (f : Nat → Nat) : ∀ l, sumI (fun i => (f i : Int)) l = ((sumN f l : Nat) : Int)
  | [] => rfl
  | i :: l => by simp only [sumI, sumN, sumI_cast f l, Int.natCast_add]
/-- as many as a power of two, all equally often -/
theorem even_law {k : Nat} {f : Int} (hk : 1 ≤ k ∧ k ≤ 8) (hf : 1 ≤ f ∧ f ≤ 1048576) : lensE (List.replicate (2 ^ k) f) 15 = 0 ∧ lensL (List.replicate (2 ^ k) f) 15 = List.replicate (2 ^ k) (k : Int) := by
  have hp8 : 2 ^ k ≤ 256 := Nat.le_trans (Nat.pow_le_pow_right (by decide) hk.2) (by decide)
  have hlen : (List.replicate (2 ^ k) f).length = 2 ^ k := List.length_replicate
  have hg : GoodF (List.replicate (2 ^ k) f) := ⟨by rw [hlen]; omega, fun x hx => by rw [List.eq_of_mem_replicate hx]; omega⟩
  have hwf : ∀ i, i < 2 ^ k → wF (List.replicate (2 ^ k) f) i = f := fun i hi => by
    unfold wF
    rw [List.getD_eq_getElem?_getD, List.getElem?_replicate, if_pos hi]
    rfl
  have hpos : posF (List.replicate (2 ^ k) f) (2 ^ k) = List.range (2 ^ k) := by
    unfold posF
    rw [List.filter_eq_self]
    intro i hi
    rw [hwf i (List.mem_range.1 hi)]
    simp
    omega
  have hE : lensE (List.replicate (2 ^ k) f) 15 = 0 := by
    unfold lensE
    rw [if_neg (by rw [chk_zero.2 hg]; simp), if_neg (by decide), hlen, hpos, List.length_range, if_neg]
    show ¬ 2 ^ 15 < 2 ^ k
    omega
  refine ⟨hE, ?_⟩
  obtain ⟨l, hl, hok⟩ := lens_ok hE
  have h15 : (15 : Int).toNat = 15 := rfl
  rw [h15] at hok
  have hkk : 2 ^ k * 2 ^ (15 - k) = 2 ^ 15 := by rw [← Nat.pow_add, show k + (15 - k) = 15 by omega]
  have hr : Right (List.replicate (2 ^ k) f) 15 fun _ => k := ⟨fun i _ => (⟨hk.1, by omega⟩ : 1 ≤ k ∧ k ≤ 15), by
    show sumN (fun _ => 2 ^ (15 - k)) _ ≤ _
    rw [sumN_const, hlen, hpos, List.length_range, Nat.mul_comm, hkk]
    exact Nat.le_refl _⟩
  have hle := hok.least _ hr
  have hkr := hok.right.2
  have hin := hok.right.1
  unfold costF at hle
  rw [hlen, hpos] at hle hkr hin
  have hle2 : sumI (fun i => (l i : Int)) (List.range (2 ^ k)) ≤ (k : Int) * ((2 ^ k : Nat) : Int) := by
    have e1 : sumI (fun i => wF (List.replicate (2 ^ k) f) i * (l i : Int)) (List.range (2 ^ k)) = sumI (fun i => (l i : Int)) (List.range (2 ^ k)) * f := by
      rw [sumI_mul]
      exact sumI_congr fun i hi => by rw [hwf i (List.mem_range.1 hi), Int.mul_comm]
    have e2 : sumI (fun i => wF (List.replicate (2 ^ k) f) i * ((k : Nat) : Int)) (List.range (2 ^ k)) = ((k : Int) * ((2 ^ k : Nat) : Int)) * f := by
      have e3 : sumI (fun i => wF (List.replicate (2 ^ k) f) i * ((k : Nat) : Int)) (List.range (2 ^ k)) = sumI (fun _ => (k : Int) * f) (List.range (2 ^ k)) := sumI_congr fun i hi => by rw [hwf i (List.mem_range.1 hi), Int.mul_comm]
      rw [e3, sumI_const, List.length_range, Int.mul_assoc, Int.mul_comm f, ← Int.mul_assoc]
    rw [e1, e2] at hle
    exact Int.le_of_mul_le_mul_right hle (by omega)
  have hall : ∀ j, j < 2 ^ k → l j = k := fun j hj => by
    by_cases hne : l j = k
    · exact hne
    · exfalso
      have hb : ∀ i ∈ List.range (2 ^ k), 1 ≤ l i ∧ l i ≤ 15 := hin
      have hcur : ∀ i ∈ List.range (2 ^ k), (2 : Int) ^ (15 - k) * (4 + 3 * (((15 - l i : Nat) : Int) - ((15 - k : Nat) : Int))) ≤ 4 * ((2 ^ (15 - l i) : Nat) : Int) := fun i hi => by
        have hbi := hb i hi
        have := (curve ⟨15 - l i, by omega⟩ ⟨15 - k, by omega⟩).1
        rw [show ((2 ^ (15 - l i) : Nat) : Int) = (2 : Int) ^ (15 - l i) by simp]
        exact this
      have hst : (2 : Int) ^ (15 - k) * (4 + 3 * (((15 - l j : Nat) : Int) - ((15 - k : Nat) : Int))) < 4 * ((2 ^ (15 - l j) : Nat) : Int) := by
        have hbj := hb j (List.mem_range.2 hj)
        have := (curve ⟨15 - l j, by omega⟩ ⟨15 - k, by omega⟩).2 (fun e => hne (by have := congrArg Fin.val e; dsimp only at this; omega))
        rw [show ((2 ^ (15 - l j) : Nat) : Int) = (2 : Int) ^ (15 - l j) by simp]
        exact this
      have hsum := sum_strict hcur ⟨j, List.mem_range.2 hj, hst⟩
      have e4 : sumI (fun i => 4 * ((2 ^ (15 - l i) : Nat) : Int)) (List.range (2 ^ k)) = 4 * ((sumN (fun i => 2 ^ (15 - l i)) (List.range (2 ^ k)) : Nat) : Int) := by
        rw [← sumI_cast, Int.mul_comm, sumI_mul]
        exact sumI_congr fun i _ => Int.mul_comm _ _
      have e5 : sumI (fun i => (2 : Int) ^ (15 - k) * (4 + 3 * (((15 - l i : Nat) : Int) - ((15 - k : Nat) : Int)))) (List.range (2 ^ k)) = (4 * ((2 ^ k : Nat) : Int) + 3 * ((k : Int) * ((2 ^ k : Nat) : Int) - sumI (fun i => (l i : Int)) (List.range (2 ^ k)))) * (2 : Int) ^ (15 - k) := by
        have e6 : sumI (fun i => 4 + 3 * ((k : Int) - (l i : Int))) (List.range (2 ^ k)) = 4 * ((2 ^ k : Nat) : Int) + 3 * ((k : Int) * ((2 ^ k : Nat) : Int) - sumI (fun i => (l i : Int)) (List.range (2 ^ k))) := by
          have : ∀ p : List Nat, sumI (fun i => 4 + 3 * ((k : Int) - (l i : Int))) p = 4 * (p.length : Int) + 3 * ((k : Int) * (p.length : Int) - sumI (fun i => (l i : Int)) p) := fun p => by
            induction p with
            | nil => simp [sumI]
            | cons a p ih =>
              simp only [sumI, ih, List.length_cons, Int.natCast_add, Int.mul_add]
              omega
          rw [this, List.length_range]
        rw [← e6, sumI_mul]
        exact sumI_congr fun i hi => by
          have := hb i hi
          rw [show (((15 - l i : Nat) : Int) - ((15 - k : Nat) : Int)) = (k : Int) - (l i : Int) by omega, Int.mul_comm]
      rw [e4, e5] at hsum
      have hp0 : (0 : Int) < (2 : Int) ^ (15 - k) := by
        rw [show ((2 : Int) ^ (15 - k)) = ((2 ^ (15 - k) : Nat) : Int) by simp]
        have := Nat.two_pow_pos (15 - k)
        omega
      have h6 : (4 * ((2 ^ k : Nat) : Int)) * (2 : Int) ^ (15 - k) ≤ (4 * ((2 ^ k : Nat) : Int) + 3 * ((k : Int) * ((2 ^ k : Nat) : Int) - sumI (fun i => (l i : Int)) (List.range (2 ^ k)))) * (2 : Int) ^ (15 - k) := Int.mul_le_mul_of_nonneg_right (by omega) (by omega)
      have h7 : (4 * ((2 ^ k : Nat) : Int)) * (2 : Int) ^ (15 - k) = 4 * ((2 ^ 15 : Nat) : Int) := by
        rw [Int.mul_assoc, ← hkk]
        simp
      rw [h7] at h6
      omega
  apply List.ext_getElem?
  intro i
  rw [List.getElem?_replicate]
  rcases Nat.lt_or_ge i (2 ^ k) with hi | hi
  · rw [if_pos hi, hl i (by rw [hlen]; exact hi), hall i hi]
  · rw [if_neg (by omega), List.getElem?_eq_none (by rw [lens_len, hlen]; exact hi)]
end Go.Proofs.Ytppnaofebkpbkaa.huff
