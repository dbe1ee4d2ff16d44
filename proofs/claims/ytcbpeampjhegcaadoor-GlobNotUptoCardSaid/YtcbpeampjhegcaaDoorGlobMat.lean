/-
  glob: the greedy way finds what a pattern takes (no program).
-/
import Derived.Test.YtcbpeampjhegcaaDoorGlobPat
namespace Go.Proofs.YtcbpeampjhegcaaDoor.glob
open Go.RowKit kit sl
set_option linter.unusedVariables false
/-- where the greedy way stands: part i, sign k, the last run, the sign from which it was tried last -/
structure Gr (ps : List Pt) (t : List Nat) (i k : Nat) (star : Option Nat) (from' : Nat) : Prop where
  hi : i ≤ ps.length
  hk : k ≤ t.length
  none : star = none → (M ps t ↔ M (ps.drop i) (t.drop k))
  some : ∀ s, star = some s → (s < i ∧ from' ≤ k ∧ i - (s + 1) = k - from') ∧ (∃ p, ps[s]? = some p ∧ p.1 = true) ∧ (∀ j p, s < j → j < i → ps[j]? = some p → p.1 = false) ∧
    (M ps t ↔ M (ps.drop i) (t.drop k) ∨ ∃ j, from' < j ∧ j ≤ t.length ∧ M (ps.drop (s + 1)) (t.drop j))
theorem gr_start (ps : List Pt) (t : List Nat) : Gr ps t 0 0 none 0 := ⟨Nat.zero_le _, Nat.zero_le _, fun _ => Iff.rfl, fun s h => by cases h⟩
theorem dropP {α : Type} {l : List α} {k : Nat} {x : α} (h : l[k]? = some x) : l.drop k = x :: l.drop (k + 1) := by
  rw [List.drop_eq_getElem_cons (List.getElem?_eq_some_iff.1 h).1, (List.getElem?_eq_some_iff.1 h).2]
/-- of the parts from a run's next one on: singles up to i -/
theorem seg {ps : List Pt} {s i : Nat} (hs : s < i) (hi : i ≤ ps.length) (h : ∀ j p, s < j → j < i → ps[j]? = some p → p.1 = false) : ∃ a, ps.drop (s + 1) = a ++ ps.drop i ∧ a.length = i - (s + 1) ∧ ∀ p ∈ a, p.1 = false := by
  refine ⟨(ps.drop (s + 1)).take (i - (s + 1)), ?_, by rw [List.length_take, List.length_drop]; omega, fun p hp => ?_⟩
  · conv => lhs; rw [← List.take_append_drop (i - (s + 1)) (ps.drop (s + 1))]
    rw [List.drop_drop, show s + 1 + (i - (s + 1)) = i by omega]
  · obtain ⟨j, hj⟩ := List.mem_iff_getElem?.1 hp
    have hjl := (List.getElem?_eq_some_iff.1 hj).1
    rw [List.length_take, List.length_drop] at hjl
    rw [List.getElem?_take, if_pos (by omega), List.getElem?_drop] at hj
    exact h (s + 1 + j) p (by omega) (by omega) hj
theorem gr_run {ps : List Pt} {t : List Nat} {i k from' : Nat} {star : Option Nat} {p : Pt} (g : Gr ps t i k star from') (hp : ps[i]? = some p) (hr : p.1 = true) : Gr ps t (i + 1) k (some i) k := by
  have hil := (List.getElem?_eq_some_iff.1 hp).1
  have hd := dropP hp
  have hM : M (ps.drop i) (t.drop k) ↔ M (ps.drop (i + 1)) (t.drop k) ∨ ∃ j, k < j ∧ j ≤ t.length ∧ M (ps.drop (i + 1)) (t.drop j) := by
    rw [hd, m_run hr]
    constructor
    · rintro ⟨j, hj, hm⟩
      rw [List.drop_drop] at hm
      rw [List.length_drop] at hj
      rcases Nat.eq_zero_or_pos j with h0 | h0
      · subst h0; exact .inl hm
      · exact .inr ⟨k + j, by omega, by have := g.hk; omega, hm⟩
    · rintro (hm | ⟨j, h1, h2, hm⟩)
      · exact ⟨0, Nat.zero_le _, hm⟩
      · exact ⟨j - k, by rw [List.length_drop]; omega, by rw [List.drop_drop, show k + (j - k) = j by omega]; exact hm⟩
  refine ⟨hil, g.hk, fun h => (by cases h), fun s hs => ?_⟩
  cases hs
  refine ⟨⟨Nat.lt_succ_self _, Nat.le_refl _, by omega⟩, ⟨p, hp, hr⟩, fun j q h1 h2 _ => by omega, ?_⟩
  rw [← hM]
  cases star with
  | none => exact g.none rfl
  | some s =>
    obtain ⟨⟨a1, a2, a3⟩, _, a5, a6⟩ := g.some s rfl
    rw [a6]
    constructor
    · rintro (hm | ⟨j, h1, h2, hm⟩)
      · exact hm
      · obtain ⟨a, e1, e2, e3⟩ := seg a1 g.hi a5
        rw [e1] at hm
        obtain ⟨h3, h4⟩ := m_singles a _ _ e3 hm
        rw [List.length_drop] at h3
        rw [List.drop_drop] at h4
        have h5 : k ≤ j + a.length := by omega
        rw [hd, m_run hr] at h4 ⊢
        obtain ⟨x, hx, hm2⟩ := h4
        rw [List.drop_drop] at hm2
        rw [List.length_drop] at hx
        exact ⟨j + a.length + x - k, by rw [List.length_drop]; omega, by rw [List.drop_drop, show k + (j + a.length + x - k) = j + a.length + x by omega]; exact hm2⟩
    · intro hm
      exact .inl hm
theorem gr_one {ps : List Pt} {t : List Nat} {i k from' : Nat} {star : Option Nat} {p : Pt} {c : Nat} (g : Gr ps t i k star from') (hp : ps[i]? = some p) (hr : p.1 = false) (hc : t[k]? = some c) (ht : takes p c = true) : Gr ps t (i + 1) (k + 1) star from' := by
  have hil := (List.getElem?_eq_some_iff.1 hp).1
  have hkl := (List.getElem?_eq_some_iff.1 hc).1
  have hM : M (ps.drop i) (t.drop k) ↔ M (ps.drop (i + 1)) (t.drop (k + 1)) := by
    rw [dropP hp, dropP hc, m_one hr]
    exact ⟨fun h => h.2, fun h => ⟨ht, h⟩⟩
  refine ⟨hil, hkl, fun h => by rw [g.none h, hM], fun s hs => ?_⟩
  obtain ⟨⟨a1, a2, a3⟩, a4, a5, a6⟩ := g.some s hs
  refine ⟨⟨by omega, by omega, by omega⟩, a4, fun j q h1 h2 h3 => ?_, by rw [a6, hM]⟩
  rcases (by omega : j < i ∨ j = i) with h | rfl
  · exact a5 j q h1 h h3
  · rw [hp] at h3; cases h3; exact hr
/-- nothing fits here -/
def Stuck (ps : List Pt) (t : List Nat) (i k : Nat) : Prop := k < t.length ∧ ∀ p, ps[i]? = some p → p.1 = false ∧ ∀ c, t[k]? = some c → takes p c = false
theorem stuck_m {ps : List Pt} {t : List Nat} {i k : Nat} (hi : i ≤ ps.length) (h : Stuck ps t i k) : ¬ M (ps.drop i) (t.drop k) := by
  obtain ⟨hk, hp⟩ := h
  obtain ⟨c, hc⟩ : ∃ c, t[k]? = some c := ⟨_, List.getElem?_eq_getElem hk⟩
  rw [dropP hc]
  rcases Nat.lt_or_ge i ps.length with hlt | hge
  · obtain ⟨p, hpp⟩ : ∃ p, ps[i]? = some p := ⟨_, List.getElem?_eq_getElem hlt⟩
    obtain ⟨h1, h2⟩ := hp p hpp
    rw [dropP hpp, m_one h1]
    rintro ⟨h3, _⟩
    rw [h2 c hc] at h3
    cases h3
  · rw [List.drop_of_length_le hge, m_nil]
    intro h
    cases h
theorem gr_back {ps : List Pt} {t : List Nat} {i k from' s : Nat} (g : Gr ps t i k (some s) from') (h : Stuck ps t i k) : Gr ps t (s + 1) (from' + 1) (some s) (from' + 1) := by
  obtain ⟨⟨a1, a2, a3⟩, a4, a5, a6⟩ := g.some s rfl
  have hk := h.1
  refine ⟨by have := g.hi; omega, by omega, fun h => (by cases h), fun s' hs => ?_⟩
  cases hs
  refine ⟨⟨Nat.lt_succ_self _, Nat.le_refl _, by omega⟩, a4, fun j q h1 h2 _ => by omega, ?_⟩
  rw [a6]
  constructor
  · rintro (hm | ⟨j, h1, h2, hm⟩)
    · exact absurd hm (stuck_m g.hi h)
    · rcases (by omega : j = from' + 1 ∨ from' + 1 < j) with rfl | h3
      · exact .inl hm
      · exact .inr ⟨j, h3, h2, hm⟩
  · rintro (hm | ⟨j, h1, h2, hm⟩)
    · exact .inr ⟨from' + 1, Nat.lt_succ_self _, by omega, hm⟩
    · exact .inr ⟨j, by omega, h2, hm⟩
theorem gr_fail {ps : List Pt} {t : List Nat} {i k from' : Nat} (g : Gr ps t i k none from') (h : Stuck ps t i k) : ¬ M ps t := fun hm => stuck_m g.hi h ((g.none rfl).1 hm)
theorem gr_end {ps : List Pt} {t : List Nat} {i k from' : Nat} {star : Option Nat} (g : Gr ps t i k star from') (hk : k = t.length) : M ps t ↔ ∀ p ∈ ps.drop i, p.1 = true := by
  subst hk
  rw [← m_empty, show ([] : List Nat) = t.drop t.length from List.drop_length.symm]
  cases star with
  | none => exact g.none rfl
  | some s =>
    obtain ⟨⟨a1, a2, a3⟩, _, a5, a6⟩ := g.some s rfl
    rw [a6]
    constructor
    · rintro (hm | ⟨j, h1, h2, hm⟩)
      · exact hm
      · obtain ⟨a, e1, e2, e3⟩ := seg a1 g.hi a5
        rw [e1] at hm
        obtain ⟨h3, _⟩ := m_singles a _ _ e3 hm
        rw [List.length_drop] at h3
        omega
    · exact .inl
/-! ### how long it may go on -/
def mu (L N i k f : Nat) : Nat := (N - f) * (L + N + 1) + (L - i) + (N - k)
theorem mu_run {L N i k f : Nat} (hi : i < L) (hf : f ≤ k) : mu L N (i + 1) k k < mu L N i k f := by
  unfold mu
  have := Nat.mul_le_mul_right (L + N + 1) (show N - k ≤ N - f by omega)
  generalize (N - k) * (L + N + 1) = a at *
  generalize (N - f) * (L + N + 1) = b at *
  omega
theorem mu_one {L N i k f : Nat} (hi : i < L) (hk : k < N) : mu L N (i + 1) (k + 1) f < mu L N i k f := by
  unfold mu
  omega
theorem mu_back {L N i k f s : Nat} (hi : i ≤ L) (hk : k < N) (h1 : s < i) (h2 : f ≤ k) (h3 : i - (s + 1) = k - f) : mu L N (s + 1) (f + 1) (f + 1) < mu L N i k f := by
  unfold mu
  have e : (N - f) * (L + N + 1) = (N - (f + 1)) * (L + N + 1) + (L + N + 1) := by
    rw [← Nat.succ_mul]
    congr 1
    omega
  rw [e]
  generalize (N - (f + 1)) * (L + N + 1) = a at *
  omega
end Go.Proofs.YtcbpeampjhegcaaDoor.glob
