/-
  huff.Lens: what its lengths are good for (no program).
-/
import Derived.Test.YtppnaofebkpbkaaHuffLaw
namespace Go.Proofs.Ytppnaofebkpbkaa.huff
open Go.RowKit kit sl Go.Proofs.Ytppnaofebkpbkaa.srt Go.Proofs.Ytppnaofebkpbkaa.hsort Go.Proofs.Ytppnaofebkpbkaa.pm
set_option linter.unusedVariables false
/-- lengths of a code for the signs that come, of M bits at most -/
def Right (F : List Int) (M : Nat) (l : Nat → Nat) : Prop := (∀ i ∈ posF F F.length, 1 ≤ l i ∧ l i ≤ M) ∧ sumN (fun i => 2 ^ (M - l i)) (posF F F.length) ≤ 2 ^ M
def costF (F : List Int) (l : Nat → Nat) : Int := sumI (fun i => wF F i * (l i : Int)) (posF F F.length)
structure LensOk (F : List Int) (M : Nat) (l : Nat → Nat) : Prop where
  none : ∀ i, i ∉ posF F F.length → l i = 0
  right : Right F M l
  order : ∀ i ∈ posF F F.length, ∀ j ∈ posF F F.length, wF F i < wF F j → l j ≤ l i
  least : ∀ l', Right F M l' → costF F l ≤ costF F l'
theorem lens_ok {F : List Int} {most : Int} (h : lensE F most = 0) : ∃ l : Nat → Nat, (∀ i, i < F.length → (lensL F most)[i]? = some (l i : Int)) ∧ LensOk F most.toNat l := by
  obtain ⟨hg, h1, h15, hn⟩ := lensE_zero h
  obtain ⟨m, hm⟩ : ∃ m : Nat, most = ((m + 1 : Nat) : Int) := ⟨most.toNat - 1, by omega⟩
  subst hm
  have hmt : ((m + 1 : Nat) : Int).toNat = m + 1 := by omega
  rw [hmt] at hn ⊢
  have hp := idx_perm F
  have hw0 : ∀ i ∈ posF F F.length, 0 < wF F i := fun i hi => (pos_mem.1 hi).2
  by_cases h2 : (idxF F).length < 2
  · refine ⟨fun i => List.count i (posF F F.length), fun i hi => ?_, ?_⟩
    · unfold lensL
      rw [if_pos h2]
      exact cnt_at _ hi
    · have hc1 : ∀ i ∈ posF F F.length, List.count i (posF F F.length) = 1 := fun i hi => by
        have h3 := List.nodup_iff_count.1 (pos_nodup F F.length) i
        have h4 := List.count_pos_iff.2 hi
        omega
      refine ⟨fun i hi => List.count_eq_zero.2 hi, ⟨fun i hi => by show 1 ≤ List.count i _ ∧ List.count i _ ≤ m + 1; rw [hc1 i hi]; omega, ?_⟩, fun i hi j hj _ => by show List.count j _ ≤ List.count i _; rw [hc1 i hi, hc1 j hj]; exact Nat.le_refl _, fun l' hl' => ?_⟩
      · have e : sumN (fun i => 2 ^ (m + 1 - List.count i (posF F F.length))) (posF F F.length) = sumN (fun _ => 2 ^ m) (posF F F.length) := sumN_congr fun i hi => by rw [hc1 i hi]; rfl
        have hl : (posF F F.length).length ≤ 1 := by rw [← hp.length_eq]; omega
        show sumN (fun i => 2 ^ (m + 1 - List.count i (posF F F.length))) (posF F F.length) ≤ _
        rw [e, sumN_const, Nat.pow_succ]
        exact Nat.mul_le_mul (Nat.le_refl _) (by omega)
      · unfold costF
        have hmono : ∀ l : List Nat, (∀ i ∈ l, wF F i * ((List.count i (posF F F.length) : Nat) : Int) ≤ wF F i * (l' i : Int)) → sumI (fun i => wF F i * ((List.count i (posF F F.length) : Nat) : Int)) l ≤ sumI (fun i => wF F i * (l' i : Int)) l := fun l => by
          induction l with
          | nil => intro _; exact Int.le_refl _
          | cons a l ih =>
            intro h3
            have h4 := h3 a List.mem_cons_self
            have h5 := ih fun i hi => h3 i (List.mem_cons_of_mem _ hi)
            simp only [sumI]
            omega
        refine hmono _ fun i hi => ?_
        have h3 := (hl'.1 i hi).1
        have h4 := hw0 i hi
        rw [hc1 i hi]
        exact Int.mul_le_mul_of_nonneg_left (by omega) (by omega)
  · have hs : pm.Srt (single (wF F) (idxF F)) := by
      have h3 := sortW_srt (single (wF F) (posF F F.length))
      rw [single_idx] at h3
      exact h3
    have hnd : (idxF F).Nodup := hp.nodup_iff.2 (pos_nodup F F.length)
    obtain ⟨_, b2, b3, b4, b5, b6⟩ := best (w := wF F) (idx := idxF F) (L := m) hs hnd (fun i hi => by have := hw0 i (hp.mem_iff.1 hi); omega) (by omega) (by rw [hp.length_eq]; exact hn)
    refine ⟨outP (wF F) (idxF F) m, fun i hi => ?_, ?_⟩
    · unfold lensL
      rw [if_neg h2, cnt_at _ hi]
      unfold outP
      rw [hmt]
      rfl
    · refine ⟨fun i hi => b3 i fun h3 => hi (hp.mem_iff.1 h3), ⟨fun i hi => b2 i (hp.mem_iff.2 hi), ?_⟩, fun i hi j hj hw => b5 i (hp.mem_iff.2 hi) j (hp.mem_iff.2 hj) hw, fun l' hl' => ?_⟩
      · rw [← sumN_perm _ hp]
        exact b4
      · unfold costF
        rw [← sumI_perm _ hp, ← sumI_perm _ hp]
        refine b6 l' (fun i hi => hl'.1 i (hp.mem_iff.1 hi)) ?_
        rw [sumN_perm _ hp]
        exact hl'.2
end Go.Proofs.Ytppnaofebkpbkaa.huff
