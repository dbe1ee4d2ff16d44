/-
  huff: what Lens tells (no program).
-/
import Derived.Test.YtppnaofebkpbkaaHuffX
namespace Go.Proofs.Ytppnaofebkpbkaa.huff
open Go.RowKit kit sl Go.Proofs.Ytppnaofebkpbkaa.srt Go.Proofs.Ytppnaofebkpbkaa.hsort Go.Proofs.Ytppnaofebkpbkaa.pm
set_option linter.unusedVariables false
instance keyCoin : Key Coin := ⟨fun c => c.1⟩
theorem ins_stp (x : XC) : ∀ l : List XC, (ins x l).map stp = ins (stp x) (l.map stp)
  | [] => rfl
  | y :: l => by
    rw [ins, List.map_cons, ins]
    by_cases h : kf x ≤ kf y
    · rw [if_pos h, if_pos (show kf (stp x) ≤ kf (stp y) from h)]
      rfl
    · rw [if_neg h, if_neg (show ¬ kf (stp x) ≤ kf (stp y) from h), List.map_cons, ins_stp x l]
theorem sort_stp : ∀ l : List XC, (sortW l).map stp = sortW (l.map stp)
  | [] => rfl
  | x :: l => by rw [sortW, ins_stp, sort_stp l]; rfl
theorem ins_perm {α : Type} [Key α] (x : α) : ∀ l : List α, (ins x l).Perm (x :: l)
  | [] => List.Perm.refl _
  | y :: l => by
    rw [ins]
    split
    · exact List.Perm.refl _
    · exact ((ins_perm x l).cons y).trans (List.Perm.swap x y l)
theorem sortW_perm {α : Type} [Key α] : ∀ l : List α, (sortW l).Perm l
  | [] => List.Perm.refl _
  | x :: l => (ins_perm x _).trans ((sortW_perm l).cons x)
def wF (F : List Int) (i : Nat) : Int := F.getD i 0
/-- the signs that come -/
def posF (F : List Int) (n : Nat) : List Nat := (List.range n).filter fun i => decide (0 < wF F i)
theorem pos_next_t {F : List Int} {n : Nat} (h : 0 < wF F n) : posF F (n + 1) = posF F n ++ [n] := by
  unfold posF
  rw [List.range_succ, List.filter_append]
  simp [h]
theorem pos_next_f {F : List Int} {n : Nat} (h : ¬ 0 < wF F n) : posF F (n + 1) = posF F n := by
  unfold posF
  rw [List.range_succ, List.filter_append]
  simp [h]
def idxF (F : List Int) : List Nat := (sortW (single (wF F) (posF F F.length))).map fun c => c.2.headD 0
theorem single_idx (F : List Int) : sortW (single (wF F) (posF F F.length)) = single (wF F) (idxF F) := by
  unfold idxF
  have h : ∀ c ∈ sortW (single (wF F) (posF F F.length)), c = (wF F (c.2.headD 0), [c.2.headD 0]) := fun c hc => by
    obtain ⟨i, _, rfl⟩ := List.mem_map.1 ((sortW_perm _).mem_iff.1 hc)
    rfl
  generalize sortW (single (wF F) (posF F F.length)) = l at h
  unfold single
  rw [List.map_map]
  induction l with
  | nil => rfl
  | cons c l ih =>
    rw [List.map_cons, ← ih fun d hd => h d (List.mem_cons_of_mem _ hd)]
    congr 1
    exact h c List.mem_cons_self
theorem idx_perm (F : List Int) : (idxF F).Perm (posF F F.length) := by
  have h := (sortW_perm (single (wF F) (posF F F.length))).map fun c => c.2.headD 0
  have e : (single (wF F) (posF F F.length)).map (fun c => c.2.headD 0) = posF F F.length := by
    unfold single
    rw [List.map_map]
    exact List.map_id' _
  rw [e] at h
  exact h
theorem pos_nodup (F : List Int) (n : Nat) : (posF F n).Nodup := List.nodup_range.filter _
theorem pos_mem {F : List Int} {n i : Nat} : i ∈ posF F n ↔ i < n ∧ 0 < wF F i := by
  unfold posF
  rw [List.mem_filter, List.mem_range, decide_eq_true_eq]
theorem pos_len (F : List Int) (n : Nat) : (posF F n).length ≤ n := by
  have := List.length_filter_le (fun i => decide (0 < wF F i)) (List.range n)
  rwa [List.length_range] at this
/-- how often each sign is among some -/
def cntL (N : Nat) (S : List Nat) : List Int := (List.range N).map fun i => ((List.count i S : Nat) : Int)
theorem cnt_len (N : Nat) (S : List Nat) : (cntL N S).length = N := by simp [cntL]
theorem cnt_at {N i : Nat} (S : List Nat) (h : i < N) : (cntL N S)[i]? = some ((List.count i S : Nat) : Int) := by
  unfold cntL
  rw [List.getElem?_map, List.getElem?_range h]
  rfl
theorem cnt_nil (N : Nat) : cntL N [] = List.replicate N 0 := by
  unfold cntL
  apply List.ext_getElem?
  intro k
  rw [List.getElem?_map, List.getElem?_replicate]
  rcases Nat.lt_or_ge k N with h | h
  · rw [List.getElem?_range h, if_pos h]; rfl
  · rw [List.getElem?_eq_none (by simpa using h), if_neg (by omega)]; rfl
theorem cnt_set {N i : Nat} (S : List Nat) (h : i < N) : (cntL N S).set i (((List.count i S : Nat) : Int) + 1) = cntL N (S ++ [i]) := by
  apply List.ext_getElem?
  intro k
  rw [List.getElem?_set]
  rcases Nat.lt_or_ge k N with hk | hk
  · by_cases e : i = k
    · subst e
      rw [if_pos rfl, if_pos (by rw [cnt_len]; exact h), cnt_at _ h]
      simp [List.count_append]
    · rw [if_neg e, cnt_at _ hk, cnt_at _ hk]
      simp [List.count_append, e]
  · rw [List.getElem?_eq_none (by rw [cnt_len]; exact hk), if_neg (by omega), List.getElem?_eq_none (by rw [cnt_len]; exact hk)]
/-- what goes wrong, and the lengths -/
def lensE (F : List Int) (most : Int) : Int := if chkE F ≠ 0 then chkE F else if most < 1 ∨ 15 < most then 1 else if 2 ^ most.toNat < (posF F F.length).length then 6 else 0
def lensL (F : List Int) (most : Int) : List Int := if (idxF F).length < 2 then cntL F.length (posF F F.length) else cntL F.length (signs ((lists (single (wF F) (idxF F)) (most.toNat - 1)).take (2 * (idxF F).length - 2)))
theorem lens_len (F : List Int) (most : Int) : (lensL F most).length = F.length := by unfold lensL; split <;> exact cnt_len _ _
theorem lensE_zero {F : List Int} {most : Int} (h : lensE F most = 0) : GoodF F ∧ 1 ≤ most ∧ most ≤ 15 ∧ (posF F F.length).length ≤ 2 ^ most.toNat := by
  unfold lensE at h
  split at h
  · rename_i h1; exact absurd h h1
  · rename_i h1
    split at h
    · cases h
    · split at h
      · cases h
      · exact ⟨chk_zero.1 (by simpa using h1), by omega, by omega, by omega⟩
/-- what all coins of a list are like -/
def Fine (N k : Nat) (c : Coin) : Prop := (c.2.length ≤ 2 ^ k ∧ ∀ i ∈ c.2, i < N) ∧ 0 ≤ c.1 ∧ c.1 ≤ 1048576 * ((2 ^ k : Nat) : Int)
theorem fine_up {N k : Nat} {c : Coin} (h : Fine N k c) : Fine N (k + 1) c := by
  obtain ⟨⟨h1, h2⟩, h3, h4⟩ := h
  have e : (2 : Nat) ^ (k + 1) = 2 ^ k * 2 := Nat.pow_succ 2 k
  have := Nat.two_pow_pos k
  exact ⟨⟨by omega, h2⟩, h3, by rw [e]; omega⟩
theorem fine_pairs {N k : Nat} : ∀ l : List Coin, (∀ c ∈ l, Fine N k c) → ∀ c ∈ pairs l, Fine N (k + 1) c := by
  refine pairs_ind (fun _ c hc => by cases hc) (fun _ _ c hc => by cases hc) fun a b l ih h c hc => ?_
  rw [pairs] at hc
  rcases List.mem_cons.1 hc with rfl | hc
  · obtain ⟨⟨a1, a2⟩, a3, a4⟩ := h a List.mem_cons_self
    obtain ⟨⟨b1, b2⟩, b3, b4⟩ := h b (List.mem_cons_of_mem _ List.mem_cons_self)
    have e : (2 : Nat) ^ (k + 1) = 2 ^ k * 2 := Nat.pow_succ 2 k
    refine ⟨⟨?_, fun i hi => ?_⟩, ?_, ?_⟩
    · dsimp only; rw [List.length_append]; omega
    · rcases List.mem_append.1 hi with hi | hi
      · exact a2 i hi
      · exact b2 i hi
    · dsimp only; omega
    · dsimp only; rw [e]; omega
  · exact ih (fun c hc => h c (List.mem_cons_of_mem _ (List.mem_cons_of_mem _ hc))) c hc
theorem fine_lists {N : Nat} {s : List Coin} (h : ∀ c ∈ s, Fine N 0 c) : ∀ k, ∀ c ∈ lists s k, Fine N k c
  | 0 => h
  | k + 1 => fun c hc => by
    have hs : ∀ k, ∀ c ∈ s, Fine N k c := fun k => by
      induction k with
      | zero => exact h
      | succ k ih => exact fun c hc => fine_up (ih c hc)
    rcases List.mem_append.1 ((merged_perm _ _).mem_iff.1 hc) with hc | hc
    · exact hs (k + 1) c hc
    · exact fine_pairs _ (fine_lists h k) c hc
theorem lists_short (s : List Coin) : ∀ k, (lists s k).length ≤ 2 * s.length
  | 0 => by rw [lists]; omega
  | k + 1 => by
    have := lists_short s k
    rw [lists_len]
    omega
theorem fine_single {F : List Int} (h : GoodF F) : ∀ c ∈ single (wF F) (idxF F), Fine F.length 0 c := fun c hc => by
  obtain ⟨i, hi, rfl⟩ := List.mem_map.1 hc
  obtain ⟨h1, h2⟩ := pos_mem.1 ((idx_perm F).mem_iff.1 hi)
  obtain ⟨f, hf⟩ : ∃ f, F[i]? = some f := ⟨_, List.getElem?_eq_getElem h1⟩
  have e : wF F i = f := by unfold wF; rw [List.getD_eq_getElem?_getD, hf]; rfl
  have hg := h.2 f (List.mem_of_getElem? hf)
  refine ⟨⟨Nat.le_refl _, fun j hj => by rw [List.mem_singleton.1 hj]; exact h1⟩, ?_, ?_⟩
  · dsimp only; omega
  · dsimp only; rw [e, Nat.pow_zero]; omega
end Go.Proofs.Ytppnaofebkpbkaa.huff
