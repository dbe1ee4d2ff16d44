/-
  dir: entries added, found, cut: the plain law.
-/
import Derived.Test.YtknclflgghnojaaDirOps
namespace Go.Proofs.Ytknclflgghnojaa.dir
open Go.RowKit kit sl Go.Proofs.Ytknclflgghnojaa.nam
set_option linter.unusedVariables false
theorem mem_addD {l : List DEnt} {x p : DEnt} : p ∈ addD l x ↔ p = x ∨ p ∈ l := by
  unfold addD
  have h : p ∈ l ↔ p ∈ l.take (posD l x.1) ∨ p ∈ l.drop (posD l x.1) := by
    rw [← List.mem_append, List.take_append_drop]
  rw [List.mem_append, List.mem_cons, h]
  constructor
  · rintro (h | h | h)
    · exact .inr (.inl h)
    · exact .inl h
    · exact .inr (.inr h)
  · rintro (h | h | h)
    · exact .inr (.inl h)
    · exact .inl h
    · exact .inr (.inr h)
theorem take_lt {l : List DEnt} {s : List UInt8} (hp : l.Pairwise fun a b => blt a.1 b.1 = true) {p : DEnt} (h : p ∈ l.take (posD l s)) : blt p.1 s = true := by
  obtain ⟨k, hk⟩ := List.getElem?_of_mem h
  have hkl := (List.getElem?_eq_some_iff.1 hk).1
  rw [List.length_take] at hkl
  rw [List.getElem?_take_of_lt (by omega)] at hk
  exact (posD_iff hp hk).2 (by omega)
theorem drop_ge {l : List DEnt} {s : List UInt8} (hp : l.Pairwise fun a b => blt a.1 b.1 = true) {p : DEnt} (h : p ∈ l.drop (posD l s)) : blt p.1 s = false := by
  obtain ⟨k, hk⟩ := List.getElem?_of_mem h
  rw [List.getElem?_drop] at hk
  cases hb : blt p.1 s with
  | false => rfl
  | true => exact absurd ((posD_iff hp hk).1 hb) (by omega)
theorem drop_gt {l : List DEnt} {s : List UInt8} (hp : l.Pairwise fun a b => blt a.1 b.1 = true) (hn : isD l s = false) {p : DEnt} (h : p ∈ l.drop (posD l s)) : blt s p.1 = true := by
  have h1 := drop_ge hp h
  rcases blt_tri p.1 s with h2 | h2 | h2
  · rw [h1] at h2; cases h2
  · have : isD l s = true := (isD_iff hp).2 ⟨p, List.mem_of_mem_drop h, h2⟩
    rw [hn] at this
    cases this
  · exact h2
theorem addD_good {l : List DEnt} {x : DEnt} (h : addE l x = 0) : GoodD (addD l x) := by
  obtain ⟨⟨g1, g2, g3⟩, h2, h3, h4⟩ := addE_zero h
  refine ⟨by rw [addD_len]; omega, fun p hp => ?_, ?_⟩
  · rcases mem_addD.1 hp with rfl | hp
    · exact h2
    · exact g2 p hp
  · unfold addD
    rw [List.pairwise_append]
    refine ⟨g3.sublist (List.take_sublist _ _), List.pairwise_cons.2 ⟨fun p hp => drop_gt g3 h3 hp, g3.sublist (List.drop_sublist _ _)⟩, fun a ha b hb => ?_⟩
    have hax := take_lt g3 ha
    rcases List.mem_cons.1 hb with rfl | hb
    · exact hax
    · exact blt_trans hax (drop_gt g3 h3 hb)
/-- two entries of one name are one -/
theorem same_name {l : List DEnt} (hp : l.Pairwise fun a b => blt a.1 b.1 = true) {p q : DEnt} (h1 : p ∈ l) (h2 : q ∈ l) (h : p.1 = q.1) : p = q := by
  induction l with
  | nil => cases h1
  | cons x l ih =>
    have h3 := List.pairwise_cons.1 hp
    rcases List.mem_cons.1 h1 with rfl | h1
    · rcases List.mem_cons.1 h2 with rfl | h2
      · rfl
      · exact absurd h (blt_ne (h3.1 q h2))
    · rcases List.mem_cons.1 h2 with e | h2
      · rw [e] at h ⊢
        exact absurd h.symm (blt_ne (h3.1 p h1))
      · exact ih h3.2 h1 h2
theorem isD_at {l : List DEnt} {s : List UInt8} (h : isD l s = true) : ∃ p, l[posD l s]? = some p ∧ p.1 = s := by
  unfold isD at h
  cases hq : l[posD l s]? with
  | none => rw [hq] at h; cases h
  | some p => rw [hq] at h; exact ⟨p, rfl, by simpa using h⟩
theorem find_some {l : List DEnt} {p : DEnt} (hg : GoodD l) (hs : goodN p.1) (hm : p ∈ l) : findE l p.1 = 0 ∧ findV l p.1 = p.2 := by
  have hi : isD l p.1 = true := (isD_iff hg.2.2).2 ⟨p, hm, rfl⟩
  have e : findE l p.1 = 0 := by unfold findE; rw [if_neg (by simpa using (checkD_iff l).2 hg), if_neg (by simpa using hs), hi, if_pos rfl]
  refine ⟨e, ?_⟩
  obtain ⟨q, hq, hq1⟩ := isD_at hi
  unfold findV
  rw [if_pos e, hq]
  rw [same_name hg.2.2 (List.mem_of_getElem? hq) hm hq1]
theorem find_none {l : List DEnt} {s : List UInt8} (hg : GoodD l) (hs : goodN s) (hm : ∀ p ∈ l, p.1 ≠ s) : findE l s = 12 ∧ findV l s = 0 := by
  have hi : isD l s = false := by
    cases hi : isD l s with
    | false => rfl
    | true =>
      obtain ⟨p, h1, h2⟩ := (isD_iff hg.2.2).1 hi
      exact absurd h2 (hm p h1)
  have e : findE l s = 12 := by unfold findE; rw [if_neg (by simpa using (checkD_iff l).2 hg), if_neg (by simpa using hs), hi, if_neg (by simp)]
  exact ⟨e, by unfold findV; rw [if_neg (by omega)]⟩
theorem find_bad {l : List DEnt} {s : List UInt8} (hg : GoodD l) (hs : ¬ goodN s) : findE l s = 11 ∧ findV l s = 0 := by
  have e : findE l s = 11 := by unfold findE; rw [if_neg (by simpa using (checkD_iff l).2 hg), if_pos hs]
  exact ⟨e, by unfold findV; rw [if_neg (by omega)]⟩
theorem add_found {l : List DEnt} {x : DEnt} (h : addE l x = 0) : findE (addD l x) x.1 = 0 ∧ findV (addD l x) x.1 = x.2 :=
  find_some (addD_good h) (fitE_zero (addE_zero h).2.1).1 (mem_addD.2 (.inl rfl))
theorem add_other {l : List DEnt} {x : DEnt} {s : List UInt8} (h : addE l x = 0) (hs : s ≠ x.1) : findE (addD l x) s = findE l s ∧ findV (addD l x) s = findV l s := by
  have hg := (addE_zero h).1
  have hg' := addD_good h
  by_cases h1 : goodN s
  · by_cases h2 : ∃ p ∈ l, p.1 = s
    · obtain ⟨p, hp, rfl⟩ := h2
      have a := find_some hg h1 hp
      have b := find_some hg' h1 (mem_addD.2 (.inr hp))
      exact ⟨by rw [a.1, b.1], by rw [a.2, b.2]⟩
    · have a := find_none hg h1 fun p hp e => h2 ⟨p, hp, e⟩
      have b := find_none hg' h1 fun p hp e => by
        rcases mem_addD.1 hp with rfl | hp
        · exact hs e.symm
        · exact h2 ⟨p, hp, e⟩
      exact ⟨by rw [a.1, b.1], by rw [a.2, b.2]⟩
  · have a := find_bad hg h1
    have b := find_bad hg' h1
    exact ⟨by rw [a.1, b.1], by rw [a.2, b.2]⟩
theorem posD_add {l : List DEnt} {x : DEnt} (h : addE l x = 0) : posD (addD l x) x.1 = posD l x.1 := by
  have hg := (addE_zero h).1
  have hle := posD_le l x.1
  unfold posD
  have e : ∀ {a : List DEnt} {b : List DEnt}, (∀ p ∈ a, blt p.1 x.1 = true) → (a ++ x :: b).takeWhile (fun p => blt p.1 x.1) = a := by
    intro a b ha
    induction a with
    | nil => rw [List.nil_append, List.takeWhile_cons, blt_irrefl]; rfl
    | cons y a ih =>
      rw [List.cons_append, List.takeWhile_cons, ha y List.mem_cons_self, if_pos rfl, ih fun p hp => ha p (List.mem_cons_of_mem _ hp)]
  have h1 := e (a := l.take (posD l x.1)) (b := l.drop (posD l x.1)) fun p hp => take_lt hg.2.2 hp
  unfold addD
  rw [h1, List.length_take, Nat.min_eq_left hle]
  rfl
theorem add_cut {l : List DEnt} {x : DEnt} (h : addE l x = 0) : cutL (addD l x) x.1 = l := by
  have hle := posD_le l x.1
  unfold cutL cutD
  rw [if_pos (add_found h).1, posD_add h]
  unfold addD
  have e1 : (l.take (posD l x.1) ++ x :: l.drop (posD l x.1)).take (posD l x.1) = l.take (posD l x.1) := List.take_left' (by rw [List.length_take]; omega)
  have e2 : (l.take (posD l x.1) ++ x :: l.drop (posD l x.1)).drop (posD l x.1 + 1) = l.drop (posD l x.1) := by
    have : l.take (posD l x.1) ++ x :: l.drop (posD l x.1) = (l.take (posD l x.1) ++ [x]) ++ l.drop (posD l x.1) := by simp
    rw [this]
    exact List.drop_left' (by rw [List.length_append, List.length_take, List.length_singleton]; omega)
  rw [e1, e2, List.take_append_drop]
theorem sorted_eq : ∀ {a b : List DEnt}, (a.Pairwise fun p q => blt p.1 q.1 = true) → (b.Pairwise fun p q => blt p.1 q.1 = true) → (∀ p, p ∈ a ↔ p ∈ b) → a = b
  | [], [], _, _, _ => rfl
  | [], y :: b, _, _, h => absurd ((h y).2 List.mem_cons_self) (by simp)
  | x :: a, [], _, _, h => absurd ((h x).1 List.mem_cons_self) (by simp)
  | x :: a, y :: b, ha, hb, h => by
    have ha' := List.pairwise_cons.1 ha
    have hb' := List.pairwise_cons.1 hb
    have hxy : x = y := by
      rcases List.mem_cons.1 ((h x).1 List.mem_cons_self) with e | h1
      · exact e
      · rcases List.mem_cons.1 ((h y).2 List.mem_cons_self) with e | h2
        · exact e.symm
        · have h3 := ha'.1 y h2
          have h4 := blt_asymm h3
          rw [hb'.1 x h1] at h4
          cases h4
    subst hxy
    have h5 : ∀ p, p ∈ a ↔ p ∈ b := fun p => by
      constructor
      · intro hp
        rcases List.mem_cons.1 ((h p).1 (List.mem_cons_of_mem _ hp)) with e | h1
        · subst e
          have := ha'.1 p hp
          rw [blt_irrefl] at this
          cases this
        · exact h1
      · intro hp
        rcases List.mem_cons.1 ((h p).2 (List.mem_cons_of_mem _ hp)) with e | h1
        · subst e
          have := hb'.1 p hp
          rw [blt_irrefl] at this
          cases this
        · exact h1
    rw [sorted_eq ha'.2 hb'.2 h5]
theorem isD_add {l : List DEnt} {x : DEnt} {s : List UInt8} (h : addE l x = 0) : isD (addD l x) s = (decide (s = x.1) || isD l s) := by
  have hg := (addE_zero h).1
  have hg' := addD_good h
  rw [Bool.eq_iff_iff, Bool.or_eq_true, decide_eq_true_eq, isD_iff hg'.2.2, isD_iff hg.2.2]
  constructor
  · rintro ⟨p, hp, rfl⟩
    rcases mem_addD.1 hp with rfl | hp
    · exact .inl rfl
    · exact .inr ⟨p, hp, rfl⟩
  · rintro (rfl | ⟨p, hp, rfl⟩)
    · exact ⟨x, mem_addD.2 (.inl rfl), rfl⟩
    · exact ⟨p, mem_addD.2 (.inr hp), rfl⟩
theorem addE_add {l : List DEnt} {x y : DEnt} (h1 : addE l x = 0) (h2 : addE l y = 0) : addE (addD l x) y = if y.1 = x.1 then 13 else if l.length = 23 then 10 else 0 := by
  have hg' := addD_good h1
  obtain ⟨_, hy, hyn, _⟩ := addE_zero h2
  unfold addE
  rw [if_neg (by simpa using (checkD_iff _).2 hg'), if_neg (by simpa using hy), isD_add h1, hyn, addD_len]
  by_cases e : y.1 = x.1
  · simp [e]
  · simp [e]
theorem add_swap {l : List DEnt} {x y : DEnt} (h1 : addE l x = 0) (h2 : addE l y = 0) : addE (addD l x) y = addE (addD l y) x ∧ addL (addD l x) y = addL (addD l y) x := by
  have e1 := addE_add h1 h2
  have e2 := addE_add h2 h1
  have e : addE (addD l x) y = addE (addD l y) x := by
    rw [e1, e2]
    by_cases e : y.1 = x.1
    · rw [if_pos e, if_pos e.symm]
    · rw [if_neg e, if_neg (c := x.1 = y.1) fun h => e h.symm]
  refine ⟨e, ?_⟩
  unfold addL
  rw [← e]
  by_cases h : addE (addD l x) y = 0
  · rw [if_pos h, if_pos h]
    refine sorted_eq (addD_good h).2.2 (addD_good (by rw [← e]; exact h)).2.2 fun p => ?_
    rw [mem_addD, mem_addD, mem_addD, mem_addD]
    constructor
    · rintro (h | h | h)
      · exact .inr (.inl h)
      · exact .inl h
      · exact .inr (.inr h)
    · rintro (h | h | h)
      · exact .inr (.inl h)
      · exact .inl h
      · exact .inr (.inr h)
  · rw [if_neg h, if_neg h]
theorem addL_len {l : List DEnt} {x : DEnt} : (addL l x).length ≤ 24 := by
  unfold addL
  by_cases h : addE l x = 0
  · rw [if_pos h]; exact (addD_good h).1
  · rw [if_neg h]; exact Nat.zero_le _
theorem addL_names {l : List DEnt} {x : DEnt} : ∀ p ∈ addL l x, p.1.length ≤ 9223372036854775807 := by
  unfold addL
  by_cases h : addE l x = 0
  · rw [if_pos h]
    intro p hp
    have := (fitE_zero ((addD_good h).2.1 p hp)).1.2.2.2.1
    omega
  · rw [if_neg h]
    intro p hp
    cases hp
theorem cutL_len {l : List DEnt} {s : List UInt8} : (cutL l s).length ≤ 24 := by
  unfold cutL
  by_cases h : findE l s = 0
  · rw [if_pos h]
    have h1 := findE_zero h
    rw [cutD_len (isD_lt h1.2.2)]
    have := h1.1.1
    omega
  · rw [if_neg h]; exact Nat.zero_le _
end Go.Proofs.Ytknclflgghnojaa.dir
