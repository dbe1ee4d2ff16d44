/-
  LzFewest: the walk.
-/
import Derived.Test.YtnejhldagkennaaLzCt
namespace Go.Proofs.Ytnejhldagkennaa.lawLzFewest
open Go.RowKit kit sl Go.Proofs.Ytnejhldagkennaa.lz
set_option linter.unusedVariables false
theorem expF_512 : ∀ (l : List (Int × Int × Int)) (out r : List UInt8), out.length ≤ 512 → expF l out = (r, 0) → r.length ≤ 512 := by
  intro l
  induction l with
  | nil => intro out r h1 h2; rw [expF] at h2; cases h2; exact h1
  | cons m l ih =>
    intro out r h1 h2
    rw [expF] at h2
    split at h2
    · rename_i h0
      refine ih _ r ?_ h2
      have hc : checkE m = 0 := by
        unfold stepE at h0
        split at h0
        · rename_i h9; exact absurd h0 h9
        · rename_i h9; exact Decidable.not_not.1 h9
      have hd : (out.length : Int) + max 1 m.1 ≤ 512 := by
        unfold stepE at h0
        rw [if_neg (by rw [hc]; exact fun h => h rfl)] at h0
        split at h0
        · cases h0
        · split at h0
          · cases h0
          · omega
      unfold stepO
      rw [copyF_len]
      rcases checkE_two m with h | ⟨_, h | h⟩
      · rw [hc] at h; cases h
      · rw [if_pos h.1, List.length_append, List.length_singleton]; omega
      · rw [if_neg (by omega)]; omega
    · rename_i h0
      exact absurd (congrArg Prod.snd h2) h0
theorem expF_none : ∀ (l : List (Int × Int × Int)) (out r : List UInt8) (e : Nat), expF l out = (r, e) → e ≠ 0 → r = [] := by
  intro l out r e h he
  rcases expF_pre l out with h2 | h2
  · rw [h] at h2; exact h2.2
  · rw [h] at h2; exact absurd h2.1 he
theorem expF_e : ∀ (l : List (Int × Int × Int)) (out : List UInt8), (expF l out).2 ≤ 8 := by
  intro l
  induction l with
  | nil => intro out; exact Nat.zero_le _
  | cons m l ih =>
    intro out
    rw [expF]
    split
    · exact ih _
    · show stepE out m ≤ 8
      unfold stepE
      rcases checkE_two m with h | ⟨h, _⟩
      · rw [h]; split
        · omega
        · split
          · omega
          · split <;> omega
      · rw [h]; split
        · omega
        · split
          · omega
          · split <;> omega
attribute [local irreducible] box own sl old bptr eptr Qt Opr Run Cod Pst Drn
set_option maxRecDepth 100000 in
set_option maxHeartbeats 8000000 in
theorem law_any (q : Option Addr) (c : Nat) (l : List (Int × Int × Int)) (hg : ∀ p ∈ l, goodM p) (hn : l.length ≤ 100000000000000) :
    Ct Try.prog 3 [.slice q l.length c] [sl 3 (.slice q l.length c) (l.map fIIU)] fun v H' => v = .bool true ∧ H' = [] := by
  have C0 := find_ct [97, 97, 97, 97, 97, 97, 97, 97] (by decide)
  rcases hx : expB l with ⟨s, e⟩
  have X1 := fun q c => expand_ct q c l hg (by omega) hx
  have he8 := expF_e l []
  rw [show expF l [] = expB l from rfl, hx] at he8
  dsimp only at he8
  by_cases he : e = 0
  · subst he
    have hs := expF_512 l [] s (Nat.zero_le _) hx
    have F1 := find_ct s hs
    (refine spec_enter Try.func3 Try.ntmps3 rfl rfl fun Fr => ?_; dsimp only [List.cons_append, List.nil_append, ini, Nat.reduceAdd])
    (repeat' (first | (apply run_qg 1; (focus rfl); (focus exact wt); (focus rfl); (focus (exact qg1))) | refine cod_seq ?_ | refine cod_region ?_ | refine run_nil ?_ | refine pst_then ?_))
    (refine run_os wt rfl (opr_call_l rfl (C0) rfl (by exact lpa)) ?_; rintro _ _ ⟨_, ⟨m, q1, c1, hF1, rfl, rfl⟩, rfl⟩; dsimp only [List.cons_append, List.nil_append])
    have h8 := found_a8 hF1
    (repeat' (first | (apply run_qg 1; (focus rfl); (focus exact wt); (focus rfl); (focus (exact qg1))) | (apply run_qg 4; (focus rfl); (focus exact wt); (focus rfl); (focus (first | exact qg4 | exact qs4))) | (apply run_qg 6; (focus rfl); (focus exact wt); (focus rfl); (focus (first | exact qs6 | exact qg6 | exact q_max rfl rfl rfl | exact q_sliceData rfl rfl (by omega) | exact q_sliceDataN rfl rfl | exact q_unsafeStringN rfl rfl rfl | exact q_cap_slice rfl rfl))) | refine cod_seq ?_ | refine cod_region ?_ | refine run_nil ?_ | refine pst_then ?_ | (apply cod_cond_f; (focus rfl)) | refine cod_skip ?_ | (apply run_osg 7; (focus rfl); (focus exact wt); (focus rfl); (focus (exact opr_call_ls (by rfl) (X1 ..) (by rfl) lpa)); (rintro _ _ ⟨rfl, rfl⟩))))
    (refine run_os wt rfl (opr_call_l rfl (F1) rfl (by exact lpa)) ?_; rintro _ _ ⟨_, ⟨out, q2, c2, hF, rfl, rfl⟩, rfl⟩; dsimp only [List.cons_append, List.nil_append])
    have hle := hF.2.2.2 l hg hx
    (repeat' (first | (apply run_qg 1; (focus rfl); (focus exact wt); (focus rfl); (focus (exact qg1))) | (apply run_qg 4; (focus rfl); (focus exact wt); (focus rfl); (focus (first | exact qg4 | exact qs4))) | (apply run_qg 6; (focus rfl); (focus exact wt); (focus rfl); (focus (first | exact qs6 | exact qg6 | exact q_max rfl rfl rfl | exact q_sliceData rfl rfl (by omega) | exact q_sliceDataN rfl rfl | exact q_unsafeStringN rfl rfl rfl | exact q_cap_slice rfl rfl))) | refine cod_seq ?_ | refine cod_region ?_ | refine run_nil ?_ | refine pst_then ?_ | refine cod_ret ?_))
    exact pst_fin rfl (by exact resa) _ (⟨rfl, rfl⟩) (by exact hsa)
  · have hs := expF_none l [] s e hx he
    subst hs
    have e1 : (([] : List UInt8) == []) = true := rfl
    (refine spec_enter Try.func3 Try.ntmps3 rfl rfl fun Fr => ?_; dsimp only [List.cons_append, List.nil_append, ini, Nat.reduceAdd])
    (repeat' (first | (apply run_qg 1; (focus rfl); (focus exact wt); (focus rfl); (focus (exact qg1))) | refine cod_seq ?_ | refine cod_region ?_ | refine run_nil ?_ | refine pst_then ?_))
    (refine run_os wt rfl (opr_call_l rfl (C0) rfl (by exact lpa)) ?_; rintro _ _ ⟨_, ⟨m, q1, c1, hF1, rfl, rfl⟩, rfl⟩; dsimp only [List.cons_append, List.nil_append])
    have h8 := found_a8 hF1
    (repeat' (first | (apply run_qg 1; (focus rfl); (focus exact wt); (focus rfl); (focus (exact qg1))) | (apply run_qg 4; (focus rfl); (focus exact wt); (focus rfl); (focus (first | exact qg4 | exact qs4))) | (apply run_qg 6; (focus rfl); (focus exact wt); (focus rfl); (focus (first | exact qs6 | exact qg6 | exact q_max rfl rfl rfl | exact q_sliceData rfl rfl (by omega) | exact q_sliceDataN rfl rfl | exact q_unsafeStringN rfl rfl rfl | exact q_cap_slice rfl rfl))) | refine cod_seq ?_ | refine cod_region ?_ | refine run_nil ?_ | refine pst_then ?_ | (apply cod_cond_t; (focus rfl)) | (apply cod_cond_f; (focus rfl)) | refine cod_ret ?_ | refine cod_skip ?_ | refine pst_then_ret ?_ | (apply run_osg 7; (focus rfl); (focus exact wt); (focus rfl); (focus (exact opr_call_ls (by rfl) (X1 ..) (by rfl) lpa)); (rintro _ _ ⟨rfl, rfl⟩))))
    exact pst_fin rfl (by exact resa) _ (⟨rfl, rfl⟩) (by exact hsa)
theorem walk (W : World) (v : Value) (xs : List (Int × Int × Int)) (hs : SliceAt W 3 v (xs.map fun p : Int × Int × Int => [Value.int .i64 p.1, Value.int .i64 p.2.1, Value.int .u8 p.2.2])) (hg : ∀ p ∈ xs, (Lit.int .i64 p.1).wf = true ∧ (Lit.int .i64 p.2.1).wf = true ∧ (Lit.int .u8 p.2.2).wf = true) (hn : xs.length * Try.prog.bytesOf 31 ≤ reachBytes) :
    Calls Try.prog 3 #[v] W fun e w' => e = .returned (.bool true) ∧ Below W.heap.size W w' := by
  have hn2 : xs.length ≤ 100000000000000 := by
    have : Try.prog.bytesOf 31 = 24 := by kernel_rfl
    rw [this] at hn
    unfold reachBytes at hn
    omega
  obtain ⟨q, c, rfl⟩ := slice_shape hs
  simp only [List.length_map]
  simp only [List.length_map] at hs
  exact law_of_ct (sh_cons hs sh_nil) (law_any q c xs hg hn2)
end Go.Proofs.Ytnejhldagkennaa.lawLzFewest
