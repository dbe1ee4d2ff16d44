/-
  pick: the plain law of the heap. No program in sight.
-/
import Derived.Test.YtkkgmgffkjeklaaSlLend
namespace Go.Proofs.Ytkkgmgffkjeklaa.pick
set_option linter.unusedVariables false
/-- a cell: which, how much of it is alive, how old -/
abbrev One := Int × Int × Int
def xO (a b : One) : Int := (1000 - a.2.1) * (a.2.2 + 1) * (1000 + b.2.1)
def better (a b : One) : Bool := decide (xO b a < xO a b) || (decide (xO a b = xO b a) && decide (a.1 < b.1))
def okO (a : One) : Prop := 1 ≤ a.2.1 ∧ a.2.1 ≤ 1000 ∧ 0 ≤ a.2.2 ∧ a.2.2 ≤ 2147483647
theorem better_iff {a b : One} : better a b = true ↔ xO b a < xO a b ∨ (xO a b = xO b a ∧ a.1 < b.1) := by
  unfold better
  simp
theorem better_not {a b : One} : better a b = false ↔ xO a b < xO b a ∨ (xO a b = xO b a ∧ b.1 ≤ a.1) := by
  have h := better_iff (a := a) (b := b)
  cases hb : better a b with
  | true => rw [hb] at h; simp only [true_iff] at h; constructor
            · intro e; cases e
            · intro e; omega
  | false => rw [hb] at h; simp only [Bool.false_eq_true, false_iff] at h; simp only [true_iff]; omega
theorem better_asym {a b : One} (h : better a b = true) : better b a = false := by
  rw [better_iff] at h
  rw [better_not]
  omega
theorem better_self (a : One) : better a a = false := by
  rw [better_not]
  exact .inr ⟨rfl, Int.le_refl _⟩
theorem frac_trans {A A' B B' C C' : Int} (hA : 0 < A') (hB : 0 < B') (hC : 0 < C') (h1 : A * B' ≤ B * A') (h2 : B * C' ≤ C * B') : A * C' ≤ C * A' := by
  have e1 : A * B' * C' ≤ B * A' * C' := Int.mul_le_mul_of_nonneg_right h1 (by omega)
  have e2 : B * C' * A' ≤ C * B' * A' := Int.mul_le_mul_of_nonneg_right h2 (by omega)
  have e3 : A * C' * B' ≤ C * A' * B' := by
    calc A * C' * B' = A * B' * C' := by rw [Int.mul_assoc, Int.mul_comm C' B', ← Int.mul_assoc]
      _ ≤ B * A' * C' := e1
      _ = B * C' * A' := by rw [Int.mul_assoc, Int.mul_comm A' C', ← Int.mul_assoc]
      _ ≤ C * B' * A' := e2
      _ = C * A' * B' := by rw [Int.mul_assoc, Int.mul_comm B' A', ← Int.mul_assoc]
  exact Int.le_of_mul_le_mul_right e3 hB
theorem frac_lt {A A' B B' C C' : Int} (hA : 0 < A') (hB : 0 < B') (hC : 0 < C') (h1 : A * B' ≤ B * A') (h2 : B * C' ≤ C * B') (h : A * C' = C * A') : A * B' = B * A' ∧ B * C' = C * B' := by
  have k1 := frac_trans hB hC hA h2 (Int.le_of_eq h.symm)
  have k2 := frac_trans hC hA hB (Int.le_of_eq h.symm) h1
  omega
/-- what is not better than what is not better -/
theorem not_trans {a b c : One} (ha : okO a) (hb : okO b) (hc : okO c) (h1 : better a b = false) (h2 : better b c = false) : better a c = false := by
  rw [better_not] at h1 h2 ⊢
  unfold okO at ha hb hc
  have pa : 0 < 1000 + a.2.1 := by omega
  have pb : 0 < 1000 + b.2.1 := by omega
  have pc : 0 < 1000 + c.2.1 := by omega
  have k1 : xO a b ≤ xO b a := by omega
  have k2 : xO b c ≤ xO c b := by omega
  have k3 : xO a c ≤ xO c a := frac_trans pa pb pc k1 k2
  rcases Int.lt_or_eq_of_le k3 with h | h
  · exact .inl h
  · have := frac_lt pa pb pc k1 k2 h
    exact .inr ⟨h, by
      have e1 : xO a b = xO b a := this.1
      have e2 : xO b c = xO c b := this.2
      omega⟩
/-- less alive and no younger: better -/
theorem more_better {a b : One} (ha : okO a) (hb : okO b) (h1 : a.2.1 < b.2.1) (h2 : b.2.2 ≤ a.2.2) : better a b = true := by
  rw [better_iff]
  left
  unfold okO at ha hb
  unfold xO
  have e1 : (1000 - b.2.1) * (b.2.2 + 1) ≤ (1000 - b.2.1) * (a.2.2 + 1) := Int.mul_le_mul_of_nonneg_left (by omega) (by omega)
  have e2 : (1000 - b.2.1) * (a.2.2 + 1) < (1000 - a.2.1) * (a.2.2 + 1) := Int.mul_lt_mul_of_pos_right (by omega) (by omega)
  have e3 : (1000 - b.2.1) * (b.2.2 + 1) < (1000 - a.2.1) * (a.2.2 + 1) := Int.lt_of_le_of_lt e1 e2
  have e4 : 0 ≤ (1000 - b.2.1) * (b.2.2 + 1) := Int.mul_nonneg (by omega) (by omega)
  calc (1000 - b.2.1) * (b.2.2 + 1) * (1000 + a.2.1) ≤ (1000 - b.2.1) * (b.2.2 + 1) * (1000 + b.2.1) := Int.mul_le_mul_of_nonneg_left (by omega) e4
    _ < (1000 - a.2.1) * (a.2.2 + 1) * (1000 + b.2.1) := Int.mul_lt_mul_of_pos_right e3 (by omega)
/-! ### the heap -/
/-- neither child of p is better than p -/
def Fine (l : List One) (n p : Nat) : Prop := ∀ c a b, (c = 2 * p + 1 ∨ c = 2 * p + 2) → c < n → l[c]? = some a → l[p]? = some b → better a b = false
def HeapFrom (l : List One) (n k : Nat) : Prop := ∀ p, k ≤ p → Fine l n p
def swp (l : List One) (i j : Nat) (x y : One) : List One := (l.set i y).set j x
theorem swp_at {l : List One} {i j : Nat} {x y : One} (hi : i < l.length) (hj : j < l.length) (hne : i ≠ j) (k : Nat) : (swp l i j x y)[k]? = if k = j then some x else if k = i then some y else l[k]? := by
  unfold swp
  rw [List.getElem?_set]
  by_cases h : j = k
  · subst h
    rw [if_pos rfl, if_pos rfl, if_pos (by rw [List.length_set]; exact hj)]
  · rw [if_neg h, if_neg (fun e => h e.symm), List.getElem?_set]
    by_cases h2 : i = k
    · subst h2; rw [if_pos rfl, if_pos rfl, if_pos hi]
    · rw [if_neg h2, if_neg (fun e => h2 e.symm)]
theorem swp_len (l : List One) (i j : Nat) (x y : One) : (swp l i j x y).length = l.length := by unfold swp; simp
/-- while something is let down: at i -/
structure Dn (l0 l : List One) (n i0 i : Nat) : Prop where
  ge : i0 ≤ i
  len : l.length = l0.length
  perm : l.Perm l0
  rest : ∀ k, n ≤ k → l[k]? = l0[k]?
  fine : ∀ p, i0 ≤ p → p ≠ i → Fine l n p
  up : ∀ p c a b, i0 ≤ p → (i = 2 * p + 1 ∨ i = 2 * p + 2) → (c = 2 * i + 1 ∨ c = 2 * i + 2) → c < n → l[c]? = some a → l[p]? = some b → better a b = false
theorem dn_start {l : List One} {n i0 : Nat} (h : HeapFrom l n (i0 + 1)) : Dn l l n i0 i0 where
  ge := Nat.le_refl _
  len := rfl
  perm := List.Perm.refl _
  rest := fun _ _ => rfl
  fine := fun p h1 h2 => h p (by omega)
  up := fun p c a b h1 h2 => by omega
theorem dn_end {l0 l : List One} {n i0 i : Nat} (h : Dn l0 l n i0 i) (hf : Fine l n i) : HeapFrom l n i0 := fun p hp => by
  by_cases e : p = i
  · subst e; exact hf
  · exact h.fine p hp e
theorem perm_swp {l : List One} {i j : Nat} {x y : One} (hi : l[i]? = some x) (hj : l[j]? = some y) (hne : i ≠ j) : (swp l i j x y).Perm l := by
  rw [List.perm_iff_count]
  intro z
  obtain ⟨h1, e1⟩ := List.getElem?_eq_some_iff.1 hi
  obtain ⟨h2, e2⟩ := List.getElem?_eq_some_iff.1 hj
  unfold swp
  have hj2 : j < (l.set i y).length := by rw [List.length_set]; exact h2
  rw [List.count_set hj2, List.count_set h1]
  have e3 : (l.set i y)[j] = y := by rw [List.getElem_set_ne hne, e2]
  rw [e3, e1]
  have c1 : x = z → 0 < l.count z := fun e => List.count_pos_iff.2 (by rw [← e, ← e1]; exact List.getElem_mem h1)
  have c2 : y = z → 0 < l.count z := fun e => List.count_pos_iff.2 (by rw [← e, ← e2]; exact List.getElem_mem h2)
  by_cases a1 : x = z
  · have p1 := c1 a1
    have b1 : (x == z) = true := by simp [a1]
    by_cases a2 : y = z
    · have b2 : (y == z) = true := by simp [a2]
      simp only [b1, b2, if_true]; omega
    · have b2 : (y == z) = false := by simp [a2]
      simp only [b1, b2, if_true, Bool.false_eq_true, if_false]; omega
  · have b1 : (x == z) = false := by simp [a1]
    by_cases a2 : y = z
    · have p2 := c2 a2
      have b2 : (y == z) = true := by simp [a2]
      simp only [b1, b2, if_true, Bool.false_eq_true, if_false]; omega
    · have b2 : (y == z) = false := by simp [a2]
      simp only [b1, b2, Bool.false_eq_true, if_false]; omega
theorem dn_next {l0 l : List One} {n i0 i j : Nat} {x y : One} (h : Dn l0 l n i0 i) (hn : n ≤ l.length) (hx : l[i]? = some x) (hy : l[j]? = some y) (hj : j = 2 * i + 1 ∨ j = 2 * i + 2) (hjn : j < n) (hb : better y x = true)
    (ho : ∀ c z, (c = 2 * i + 1 ∨ c = 2 * i + 2) → c < n → c ≠ j → l[c]? = some z → better z y = false) : Dn l0 (swp l i j x y) n i0 j := by
  have hne : i ≠ j := by omega
  have hil : i < l.length := (List.getElem?_eq_some_iff.1 hx).1
  have hjl : j < l.length := (List.getElem?_eq_some_iff.1 hy).1
  have ha := swp_at (x := x) (y := y) hil hjl hne
  refine ⟨by have := h.ge; omega, by rw [swp_len]; exact h.len, (perm_swp hx hy hne).trans h.perm, fun k hk => ?_, fun p hp hpj c a b hc hcn h1 h2 => ?_, fun p c a b hp hjp hc hcn h1 h2 => ?_⟩
  · rw [ha, if_neg (by omega), if_neg (by omega)]
    exact h.rest k hk
  · rw [ha] at h1 h2
    rw [if_neg hpj] at h2
    by_cases e : p = i
    · subst e
      rw [if_pos rfl] at h2
      cases h2
      by_cases e2 : c = j
      · rw [if_pos e2] at h1
        cases h1
        exact better_asym hb
      · rw [if_neg e2, if_neg (by omega)] at h1
        exact ho c a hc hcn e2 h1
    · rw [if_neg e] at h2
      rw [if_neg (by omega)] at h1
      by_cases e3 : c = i
      · rw [if_pos e3] at h1
        cases h1
        subst e3
        exact h.up p j _ _ hp hc hj hjn hy h2
      · rw [if_neg e3] at h1
        exact h.fine p hp e c a b hc hcn h1 h2
  · have hpi : p = i := by omega
    subst hpi
    rw [ha] at h1 h2
    rw [if_neg hne, if_pos rfl] at h2
    cases h2
    rw [if_neg (by omega), if_neg (by omega)] at h1
    exact h.fine j (by have := h.ge; omega) (by omega) c _ _ hc hcn h1 hy
/-- the first of a heap is the best -/
theorem heap_best {l : List One} {n : Nat} (hn : n ≤ l.length) (hok : ∀ a ∈ l, okO a) (h : HeapFrom l n 0) : ∀ (c : Nat) (a b : One), c < n → l[c]? = some a → l[0]? = some b → better a b = false := by
  intro c
  induction c using Nat.strongRecOn with
  | _ c ih =>
    intro a b hc h1 h2
    rcases Nat.eq_zero_or_pos c with h0 | h0
    · subst h0
      rw [h1] at h2
      cases h2
      exact better_self a
    · have hp : (c - 1) / 2 < c := by omega
      obtain ⟨z, hz⟩ : ∃ z, l[(c - 1) / 2]? = some z := ⟨_, List.getElem?_eq_getElem (by omega)⟩
      have e1 := h ((c - 1) / 2) (Nat.zero_le _) c a z (by omega) hc h1 hz
      have e2 := ih _ hp z b (by omega) hz h2
      exact not_trans (hok a (List.mem_of_getElem? h1)) (hok z (List.mem_of_getElem? hz)) (hok b (List.mem_of_getElem? h2)) e1 e2
theorem heap_half (l : List One) (n : Nat) : HeapFrom l n (n / 2) := fun p hp c a b hc hcn => by omega
/-- what Pop leaves: the last one is the best of all -/
theorem pop_law {l l1 l2 : List One} {m : Nat} {x y : One} (hl : l.length = m + 1) (hok : ∀ a ∈ l, okO a) (hh : HeapFrom l (m + 1) 0) (hx : l[0]? = some x) (hy : l[m]? = some y) (h1 : l1 = if m = 0 then l else swp l 0 m x y) :
    HeapFrom l1 m 1 ∧ l1.Perm l ∧ l1.length = m + 1 ∧ (HeapFrom l2 m 0 → l2.Perm l1 → l2.length = m + 1 → l2[m]? = l1[m]? → l2[m]? = some x ∧ HeapFrom l2.dropLast m 0 ∧ l.Perm (x :: l2.dropLast) ∧ ∀ a ∈ l2.dropLast, better a x = false) := by
  have hlast : l1[m]? = some x ∧ l1.Perm l ∧ l1.length = m + 1 ∧ ∀ k, 0 < k → k < m → l1[k]? = l[k]? := by
    by_cases hm : m = 0
    · subst hm
      rw [if_pos rfl] at h1
      subst h1
      exact ⟨hx, List.Perm.refl _, hl, fun k h1 h2 => by omega⟩
    · rw [if_neg hm] at h1
      subst h1
      have ha := swp_at (l := l) (i := 0) (j := m) (x := x) (y := y) (by omega) (by omega) (by omega)
      refine ⟨by rw [ha, if_pos rfl], perm_swp hx hy (by omega), by rw [swp_len]; exact hl, fun k h1 h2 => by rw [ha, if_neg (by omega), if_neg (by omega)]⟩
  obtain ⟨g1, g2, g3, g4⟩ := hlast
  refine ⟨fun p hp c a b hc hcn e1 e2 => ?_, g2, g3, fun k1 k2 k3 k4 => ?_⟩
  · rw [g4 c (by omega) hcn] at e1
    rw [g4 p (by omega) (by omega)] at e2
    exact hh p (Nat.zero_le _) c a b hc (by omega) e1 e2
  · rw [g1] at k4
    have hsplit : l2 = l2.dropLast ++ [x] := by
      have hne : l2 ≠ [] := by intro e; rw [e] at k3; simp at k3
      have := List.dropLast_concat_getLast hne
      rw [List.getLast_eq_getElem] at this
      have e : l2[l2.length - 1]'(by omega) = x := by
        have := List.getElem?_eq_getElem (l := l2) (i := m) (by omega)
        rw [k4] at this
        have e2 : l2.length - 1 = m := by omega
        simp only [e2]
        exact (Option.some.inj this).symm
      rw [e] at this
      exact this.symm
    have hdl : l2.dropLast.length = m := by rw [List.length_dropLast]; omega
    have hat : ∀ k, k < m → l2.dropLast[k]? = l2[k]? := fun k hk => by
      rw [hsplit, List.getElem?_append_left (by simp; omega)]
      simp
    have hperm : l.Perm (x :: l2.dropLast) := by
      refine (g2.symm.trans k2.symm).trans ?_
      rw [hsplit]
      simp only [List.dropLast_concat]
      exact List.perm_append_comm
    refine ⟨k4, fun p hp c a b hc hcn e1 e2 => ?_, hperm, fun a ha => ?_⟩
    · rw [hat c hcn] at e1
      rw [hat p (by omega)] at e2
      exact k1 p hp c a b hc hcn e1 e2
    · have hm : a ∈ l := hperm.mem_iff.2 (List.mem_cons_of_mem _ ha)
      obtain ⟨i, hi⟩ := List.getElem?_of_mem hm
      exact heap_best (Nat.le_of_eq hl.symm) hok hh i a x (by have := (List.getElem?_eq_some_iff.1 hi).1; omega) hi hx
end Go.Proofs.Ytkkgmgffkjeklaa.pick
