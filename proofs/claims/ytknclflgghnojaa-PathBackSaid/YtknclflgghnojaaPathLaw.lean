/-
  Ways: the plain laws.
-/
import Derived.Test.YtknclflgghnojaaPathJoin
namespace Go.Proofs.Ytknclflgghnojaa.way
open Go.RowKit kit sl nam
set_option linter.unusedVariables false
theorem good_no {x : List UInt8} (h : goodN x) : 47 ∉ x := by
  have := h.2.2.2.2
  unfold hasBad at this
  intro hx
  simp at this
  exact this.1 hx
theorem nmsA_app (a b : List UInt8) : ∀ cur, nmsA cur (a ++ 47 :: b) = nmsA cur a ++ nms b := by
  induction a with
  | nil =>
    intro cur
    show nmsA cur (47 :: b) = nmsA cur [] ++ nms b
    rw [nmsA, nmsA]
    by_cases h : cur = [] <;> simp [h, nms]
  | cons x a ih =>
    intro cur
    show nmsA cur (x :: (a ++ 47 :: b)) = nmsA cur (x :: a) ++ nms b
    rw [nmsA, nmsA]
    by_cases h : x = 47
    · by_cases hc : cur = [] <;> simp [h, hc, ih]
    · simp [h, ih]
theorem nms_app (a b : List UInt8) : nms (a ++ 47 :: b) = nms a ++ nms b := nmsA_app a b []
theorem nms_one {x : List UInt8} (h : goodN x) : nms x = [x] := by rw [nms_whole (good_no h), if_neg h.1]
theorem nms_tail (t : List (List UInt8)) : ∀ x, goodN x → (∀ y ∈ t, goodN y) → nms (x ++ Lib.joinTail [47] t) = x :: t := by
  induction t with
  | nil =>
    intro x hx _
    rw [show Lib.joinTail [47] [] = [] from rfl, List.append_nil, nms_one hx]
  | cons y r ih =>
    intro x hx h
    have : Lib.joinTail [47] (y :: r) = 47 :: (y ++ Lib.joinTail [47] r) := by simp [Lib.joinTail]
    rw [this, nms_app, nms_one hx, ih y (h y List.mem_cons_self) fun z hz => h z (List.mem_cons_of_mem _ hz)]
    rfl
theorem nms_jn {l : List (List UInt8)} (h : ∀ x ∈ l, goodN x) : nms (jn l) = l := by
  unfold jn
  have h1 : ∀ b, nms (47 :: b) = nms b := fun b => nms_app [] b
  rw [h1]
  cases l with
  | nil => rfl
  | cons x t => rw [Lib.join_cons]; exact nms_tail t x (h x List.mem_cons_self) fun y hy => h y (List.mem_cons_of_mem _ hy)
/-- names that a way may hold -/
def wellL (l : List (List UInt8)) : Prop := l.length ≤ 8 ∧ ∀ x ∈ l, goodN x
theorem splR_app {a b m : List (List UInt8)} : ∀ out, splR out a = (m, 0) → splR out (a ++ b) = splR m b := by
  induction a with
  | nil =>
    intro out h
    have : out = m := congrArg Prod.fst h
    rw [this]; rfl
  | cons n t ih =>
    intro out h
    rw [splR] at h
    show splR out (n :: (t ++ b)) = _
    rw [splR]
    split
    · rename_i h1
      rw [if_pos h1] at h
      exact ih _ h
    · rename_i h1
      rw [if_neg h1] at h
      split
      · rename_i h2
        rw [if_pos h2] at h
        exact ih _ h
      · rename_i h2
        rw [if_neg h2] at h
        split
        · rename_i h3
          rw [if_pos h3] at h
          exact (by have h9 := congrArg Prod.snd h; simp at h9)
        · rename_i h3
          rw [if_neg h3] at h
          split
          · rename_i h4
            rw [if_pos h4] at h
            exact (by have h9 := congrArg Prod.snd h; simp at h9)
          · rename_i h4
            rw [if_neg h4] at h
            exact ih _ h
theorem splR_well (a : List (List UInt8)) : ∀ out, wellL out → wellL (splR out a).1 ∧ ((splR out a).2 = 0 ∨ (splR out a).1 = []) := by
  induction a with
  | nil => exact fun out h => ⟨h, .inl rfl⟩
  | cons n t ih =>
    intro out h
    rw [splR]
    split
    · exact ih _ h
    · split
      · exact ih _ ⟨by rw [List.length_dropLast]; have := h.1; omega, fun x hx => h.2 x (List.dropLast_subset _ hx)⟩
      · split
        · exact ⟨⟨by decide, fun x hx => absurd hx List.not_mem_nil⟩, .inr rfl⟩
        · rename_i h3
          split
          · exact ⟨⟨by decide, fun x hx => absurd hx List.not_mem_nil⟩, .inr rfl⟩
          · rename_i h4
            refine ih _ ⟨by rw [List.length_append, List.length_singleton]; have := h.1; omega, fun x hx => ?_⟩
            rcases List.mem_append.1 hx with hx | hx
            · exact h.2 x hx
            · rw [List.mem_singleton.1 hx]; exact Decidable.not_not.1 h3
theorem split_well (s : List UInt8) : wellL (splitV s).1 ∧ ((splitV s).2 = 0 ∨ (splitV s).1 = []) := by
  have h0 : wellL [] := ⟨by decide, fun x hx => absurd hx List.not_mem_nil⟩
  unfold splitV
  split
  · exact ⟨h0, .inr rfl⟩
  · split
    · exact splR_well _ _ h0
    · exact ⟨h0, .inr rfl⟩
theorem splR_same (l : List (List UInt8)) : ∀ out, (∀ x ∈ l, goodN x) → out.length + l.length ≤ 8 → splR out l = (out ++ l, 0) := by
  induction l with
  | nil => intro out _ _; rw [List.append_nil]; rfl
  | cons x t ih =>
    intro out h hl
    have hx := h x List.mem_cons_self
    rw [List.length_cons] at hl
    rw [splR, if_neg hx.2.1, if_neg hx.2.2.1, if_neg (fun g => g hx), if_neg (by omega), ih _ (fun y hy => h y (List.mem_cons_of_mem _ hy)) (by rw [List.length_append, List.length_singleton]; omega), List.append_assoc]
    rfl
theorem split_jn {l : List (List UInt8)} (h : wellL l) : splitV (jn l) = (l, 0) := by
  unfold splitV
  have hl := jn_len h.1 h.2
  rw [if_neg (by unfold jn; rw [List.length_cons]; omega), if_pos (show (jn l).head? = some 47 from rfl), nms_jn h.2, splR_same l [] h.2 (by have := h.1; simp; omega)]
  rfl
theorem split_on {s t : List UInt8} {l : List (List UInt8)} (h : splitV s = (l, 0)) (hl : s.length + 1 + t.length ≤ 200) : splitV (s ++ 47 :: t) = splR l (nms t) := by
  unfold splitV at h ⊢
  rw [if_neg (by rw [List.length_append, List.length_cons]; omega)]
  split at h
  · exact (by have h9 := congrArg Prod.snd h; simp at h9)
  · split at h
    · rename_i h1
      have h2 : (s ++ 47 :: t).head? = some 47 := by
        cases s with
        | nil => rfl
        | cons x s => simpa using h1
      rw [if_pos h2, nms_app, splR_app _ h]
    · exact (by have h9 := congrArg Prod.snd h; simp at h9)
theorem split_stay {s : List UInt8} {l : List (List UInt8)} (h : splitV s = (l, 0)) (hs : s.length ≤ 150) : splitV (s ++ [47, 46, 47]) = (l, 0) := by
  rw [split_on (t := [46, 47]) h (by simp; omega)]
  rfl
theorem split_down {s x : List UInt8} {l : List (List UInt8)} (h : splitV s = (l, 0)) (hs : s.length ≤ 150) (hx : goodN x) : splitV (s ++ 47 :: x) = if l.length = 8 then ([], 2) else (l ++ [x], 0) := by
  have := hx.2.2.2.1
  rw [split_on h (by omega), nms_one hx, splR, if_neg hx.2.1, if_neg hx.2.2.1, if_neg (fun g => g hx)]
  rfl
theorem split_up {s x : List UInt8} {l : List (List UInt8)} (h : splitV s = (l, 0)) (hs : s.length ≤ 150) (hx : goodN x) : splitV (s ++ 47 :: (x ++ [47, 46, 46])) = if l.length = 8 then ([], 2) else (l, 0) := by
  have := hx.2.2.2.1
  have hn : nms (x ++ [47, 46, 46]) = [x, [46, 46]] := by
    rw [nms_app x [46, 46], nms_one hx]
    rfl
  rw [split_on h (by simp; omega), hn, splR, if_neg hx.2.1, if_neg hx.2.2.1, if_neg (fun g => g hx)]
  split
  · rfl
  · rw [splR, if_neg (by decide), if_pos rfl, List.dropLast_concat]
    rfl
end Go.Proofs.Ytknclflgghnojaa.way
