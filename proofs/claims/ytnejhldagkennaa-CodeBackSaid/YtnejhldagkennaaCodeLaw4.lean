/-
  CodeBack: the plain law.
-/
import Derived.Test.YtnejhldagkennaaCodeLaw3
namespace Go.Proofs.Ytnejhldagkennaa.code
open Go.RowKit kit sl lens flip Go.Proofs.Ytnejhldagkennaa.bits
set_option linter.unusedVariables false
theorem wrF_ok {l : List Int} (t : List Int) : ∀ out, (wrF l t out).2 = 0 → ∀ x ∈ t, hasC l x := by
  induction t with
  | nil => intro out _ x hx; cases hx
  | cons y t ih =>
    intro out h x hx
    rw [wrF] at h
    split at h
    · rename_i h1
      rcases List.mem_cons.1 hx with rfl | hx
      · exact h1
      · exact ih _ h x hx
    · simp at h
theorem wrF_bad {l : List Int} (t : List Int) : ∀ out, (wrF l t out).2 ≠ 0 → (wrF l t out).1 = [] := by
  induction t with
  | nil => intro out h; exact absurd rfl h
  | cons y t ih =>
    intro out h
    rw [wrF] at h ⊢
    split
    · rename_i h1
      rw [if_pos h1] at h
      exact ih _ h
    · rfl
theorem write_bad {l t : List Int} (h : (writeV l t).2 ≠ 0) : (writeV l t).1 = [] := by
  unfold writeV at h ⊢
  split
  · rename_i h1
    rw [if_pos h1] at h
    exact wrF_bad t [] h
  · rfl
/-- of what is written with no error -/
structure Wrote (l t : List Int) (ps : List (Int × Int)) : Prop where
  canon : canonE l = 0
  has : ∀ x ∈ t, hasC l x
  eq : ps = t.map (pieceC l)
  wf : ∀ p ∈ ps, ∃ a v : Nat, a < 2 ^ v ∧ v ≤ 15 ∧ p = ((a : Int), (v : Int))
theorem wrote {l t : List Int} {ps : List (Int × Int)} (h : writeV l t = (ps, 0)) : Wrote l t ps := by
  have hc : canonE l = 0 := by
    refine Decidable.byContradiction fun h1 => ?_
    unfold writeV at h
    rw [if_neg h1] at h
    have h9 := congrArg (fun r => r.2) h
    have h10 : (canonE l : Int) = 0 := h9
    omega
  have h2 : wrF l t [] = (ps, 0) := by unfold writeV at h; rwa [if_pos hc] at h
  have hh := wrF_ok t [] (by rw [h2])
  have hp : ps = t.map (pieceC l) := by
    rw [wrF_all t [] hh] at h2
    exact (congrArg Prod.fst h2).symm
  refine ⟨hc, hh, hp, fun p hpm => ?_⟩
  rw [hp] at hpm
  obtain ⟨x, hx, rfl⟩ := List.mem_map.1 hpm
  obtain ⟨h0, h1⟩ := hh x hx
  obtain ⟨hl, hb⟩ := canon_good hc
  obtain ⟨i, rfl⟩ := Int.eq_ofNat_of_zero_le h0
  rw [Int.toNat_natCast] at h1
  have hil : i < l.length := by
    rcases Nat.lt_or_ge i l.length with h | h
    · exact h
    · rw [List.getD_eq_getElem?_getD, List.getElem?_eq_none h] at h1
      exact absurd rfl h1
  obtain ⟨y, hy⟩ : ∃ y, l[i]? = some y := ⟨_, List.getElem?_eq_getElem hil⟩
  obtain ⟨y0, y15⟩ := hb y (List.mem_of_getElem? hy)
  obtain ⟨w, rfl⟩ := Int.eq_ofNat_of_zero_le y0
  exact ⟨_, w, flipN_lt _ _, by omega, piece_of hy⟩
theorem err_zero {ps : List (Int × Int)} (h : ∀ p ∈ ps, ∃ a v : Nat, a < 2 ^ v ∧ v ≤ 15 ∧ p = ((a : Int), (v : Int))) : firstErr ps = 0 ∧ total ps ≤ 15 * ps.length := by
  induction ps with
  | nil => exact ⟨rfl, Nat.le_refl _⟩
  | cons p ps ih =>
    obtain ⟨a, v, h1, h2, rfl⟩ := h p List.mem_cons_self
    obtain ⟨h3, h4⟩ := ih fun q hq => h q (List.mem_cons_of_mem _ hq)
    refine ⟨?_, ?_⟩
    · rw [firstErr, pieceErr_of _ _ (by omega), if_pos h1, if_pos rfl]
      exact h3
    · rw [total, List.length_cons]
      simp only [Int.toNat_natCast]
      omega
/-- all together -/
theorem back_law {l t : List Int} {ah ps : List (Int × Int)} (hw : Wrote l t ps) (ht : t.length ≤ 1024) (ha : firstErr ah = 0) (hat : total ah ≤ 8000) (hap : ∀ p ∈ ah, 0 ≤ p.1) :
    packErr (ah ++ ps) = 0 ∧ (packB (ah ++ ps)).length ≤ 3000 ∧ total ah ≤ 8 * (packB (ah ++ ps)).length ∧ readV l (packB (ah ++ ps)) (total ah) t.length = (t, total ah + total ps, 0) := by
  obtain ⟨e1, e2⟩ := err_zero hw.wf
  have hpl : ps.length = t.length := by rw [hw.eq, List.length_map]
  have htot := total_app ah ps
  have hlen : (packB (ah ++ ps)).length = (total ah + total ps + 7) / 8 := by unfold packB; rw [toLE_len, htot]
  have hp0 : ∀ p ∈ ps, 0 ≤ p.1 := fun p hp => by
    obtain ⟨a, v, _, _, rfl⟩ := hw.wf p hp
    exact Int.natCast_nonneg a
  have h1 := packN_lt ah hap ha
  have h2 := packN_lt ps hp0 e1
  have hN : leN (packB (ah ++ ps)) = packN ah + 2 ^ total ah * packN ps := by
    unfold packB
    rw [leN_toLE, packN_app, htot]
    apply Nat.mod_eq_of_lt
    have h3 : (256 : Nat) ^ ((total ah + total ps + 7) / 8) = 2 ^ (8 * ((total ah + total ps + 7) / 8)) := by rw [Nat.pow_mul]
    have h4 : 2 ^ (total ah + total ps) ≤ 2 ^ (8 * ((total ah + total ps + 7) / 8)) := Nat.pow_le_pow_right (by decide) (by omega)
    have h5 : 2 ^ total ah * packN ps + 2 ^ total ah ≤ 2 ^ total ah * 2 ^ total ps := by
      rw [← Nat.mul_succ]
      exact Nat.mul_le_mul_left _ h2
    rw [← Nat.pow_add] at h5
    omega
  refine ⟨?_, by rw [hlen]; omega, by rw [hlen]; omega, ?_⟩
  · unfold packErr
    rw [firstErr_app, if_pos ha, e1, if_neg (by simp), if_neg (by omega)]
  · have h6 : leN (packB (ah ++ ps)) / 2 ^ total ah % 2 ^ total (t.map (pieceC l)) = packN (t.map (pieceC l)) := by
      rw [← hw.eq, hN, Nat.add_mul_div_left _ _ (Nat.two_pow_pos _), Nat.div_eq_of_lt h1, Nat.zero_add, Nat.mod_eq_of_lt h2]
    have h7 := read_back hw.canon t (total ah) [] hw.has h6 (by rw [← hw.eq, hlen]; omega)
    unfold readV
    rw [if_pos hw.canon, h7, ← hw.eq]
    rfl
end Go.Proofs.Ytnejhldagkennaa.code
