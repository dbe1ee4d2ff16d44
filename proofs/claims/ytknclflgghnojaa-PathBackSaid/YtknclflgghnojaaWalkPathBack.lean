/-
  PathBack: the walk.
-/
import Derived.Test.YtknclflgghnojaaPathLaw
import Derived.Test.YtknclflgghnojaaOpen2
namespace Go.Proofs.Ytknclflgghnojaa.lawPathBack
open Go.RowKit kit sl Go.Proofs.Ytknclflgghnojaa.way Go.Proofs.Ytknclflgghnojaa.nam
open Go.Proofs.Ytknclflgghnojaa.file (fT one_fT equal_T)
set_option linter.unusedVariables false
abbrev way0 : List UInt8 := [47, 97, 47, 46, 47, 98, 47, 47, 46, 46, 47, 99]
theorem way0_split : splitV way0 = ([[97], [99]], 0) := by decide
theorem split_is {s : List UInt8} {l : List (List UInt8)} {e : Int} (hs : s.length ≤ maxLen) (h : splitV s = (l, e)) : Ct Try.prog 33 [.string (str s)] [] fun v H' => ∃ q c, v = .tuple #[.slice q l.length c, .int .i64 e] ∧ H' = [own (.slice q l.length c) 9 1 l.length (flat fT l)] := by
  have := split_any s hs
  unfold SplitOut at this
  rwa [h] at this
attribute [local irreducible] box own sl old bptr eptr Qt Opr Run Cod Pst Drn
set_option maxRecDepth 100000 in
set_option maxHeartbeats 8000000 in
theorem law_any (s : List UInt8) (hs : s.length ≤ maxLen) :
    Ct Try.prog 8 [.string (str s)] [] fun v H' => v = .bool true ∧ H' = [] := by
  have C0 := split_is (s := way0) (by decide) way0_split
  have E0 := fun qa qb ca cb => ct_true (equal_T qa qb ca cb [[97], [99]] [[97], [99]] (by unfold maxLen; decide) (by unfold maxLen; decide)) rfl
  have hw := split_well s
  cases hsp : splitV s with
  | mk l e =>
    rw [hsp] at hw
    obtain ⟨hw1, hw2⟩ := hw
    dsimp only at hw1 hw2
    have C1 := split_is hs hsp
    by_cases he : e = 0
    · subst he
      have C2 := fun q c => join_good q c l hw1.1 hw1.2
      have hjl : (jn l).length ≤ 151 := by have := jn_len hw1.1 hw1.2; unfold jn; rw [List.length_cons]; omega
      have C3 := split_is (s := jn l) (by unfold maxLen; omega) (split_jn hw1)
      have e3 : (jn l == []) = false := rfl
      have hl8 := hw1.1
      have E1 := fun qa qb ca cb => ct_true (equal_T qa qb ca cb l l (by unfold maxLen; omega) (by unfold maxLen; omega)) rfl
      generalize jn l = t at *
      (refine spec_enter Try.func8 Try.ntmps8 rfl rfl fun Fr => ?_; dsimp only [List.cons_append, List.nil_append, ini, Nat.reduceAdd])
      (repeat' (first | (apply run_qg 1; (focus rfl); (focus exact wt); (focus rfl); (focus (exact qg1))) | refine cod_seq ?_ | refine cod_region ?_ | refine run_nil ?_ | refine pst_then ?_))
      (refine run_os wt rfl (opr_call_l rfl (C0) rfl (by exact lpa)) ?_; rintro _ _ ⟨_, ⟨q0, c0, rfl, rfl⟩, rfl⟩; dsimp only [List.cons_append, List.nil_append])
      (repeat' (first | (apply run_qg 1; (focus rfl); (focus exact wt); (focus rfl); (focus (exact qg1))) | (apply run_qg 4; (focus rfl); (focus exact wt); (focus rfl); (focus (first | exact qg4 | exact qs4))) | refine cod_seq ?_ | refine cod_region ?_ | refine run_nil ?_ | refine pst_then ?_ | (apply cod_cond_f; (focus rfl)) | refine cod_skip ?_ | (apply run_osg 10; (focus rfl); (focus exact wt); (focus rfl); (focus (exact opr_buildSlice rfl rfl rfl (by exact blda) rfl rfl (by decide) rfl)); (rintro _ _ ⟨q, rfl, rfl⟩)) | (apply run_osg 7; (focus rfl); (focus exact wt); (focus rfl); (focus (exact opr_call_ls (by rfl) (E0 ..) (by rfl) lpa)); (rintro _ _ ⟨rfl, rfl⟩))))
      (refine run_os wt rfl (opr_call_l rfl (C1) rfl (by exact lpa)) ?_; rintro _ _ ⟨_, ⟨q1, c1, rfl, rfl⟩, rfl⟩; dsimp only [List.cons_append, List.nil_append])
      (repeat' (first | (apply run_qg 1; (focus rfl); (focus exact wt); (focus rfl); (focus (exact qg1))) | (apply run_qg 4; (focus rfl); (focus exact wt); (focus rfl); (focus (first | exact qg4 | exact qs4))) | refine cod_seq ?_ | refine cod_region ?_ | refine run_nil ?_ | refine pst_then ?_ | (apply cod_cond_f; (focus rfl)) | refine cod_skip ?_ | (apply run_osg 7; (focus rfl); (focus exact wt); (focus rfl); (focus (exact opr_call_ls (by rfl) (C2 ..) (by rfl) lpa)); (rintro _ _ ⟨rfl, rfl⟩))))
      (refine run_os wt rfl (opr_call_l rfl (C3) rfl (by exact lpa)) ?_; rintro _ _ ⟨_, ⟨q3, c3, rfl, rfl⟩, rfl⟩; dsimp only [List.cons_append, List.nil_append])
      (repeat' (first | (apply run_qg 1; (focus rfl); (focus exact wt); (focus rfl); (focus (exact qg1))) | (apply run_qg 4; (focus rfl); (focus exact wt); (focus rfl); (focus (first | exact qg4 | exact qs4))) | refine cod_seq ?_ | refine cod_region ?_ | refine run_nil ?_ | refine pst_then ?_ | refine cod_ret ?_ | (apply run_osg 7; (focus rfl); (focus exact wt); (focus rfl); (focus (exact opr_call_ls (by rfl) (E1 ..) (by rfl) lpa)); (rintro _ _ ⟨rfl, rfl⟩))))
      exact pst_fin rfl (by exact resa) _ (⟨rfl, rfl⟩) (by exact hsa)
    · have hl : l = [] := hw2.resolve_left he
      subst hl
      (refine spec_enter Try.func8 Try.ntmps8 rfl rfl fun Fr => ?_; dsimp only [List.cons_append, List.nil_append, ini, Nat.reduceAdd])
      (repeat' (first | (apply run_qg 1; (focus rfl); (focus exact wt); (focus rfl); (focus (exact qg1))) | refine cod_seq ?_ | refine cod_region ?_ | refine run_nil ?_ | refine pst_then ?_))
      (refine run_os wt rfl (opr_call_l rfl (C0) rfl (by exact lpa)) ?_; rintro _ _ ⟨_, ⟨q0, c0, rfl, rfl⟩, rfl⟩; dsimp only [List.cons_append, List.nil_append])
      (repeat' (first | (apply run_qg 1; (focus rfl); (focus exact wt); (focus rfl); (focus (exact qg1))) | (apply run_qg 4; (focus rfl); (focus exact wt); (focus rfl); (focus (first | exact qg4 | exact qs4))) | refine cod_seq ?_ | refine cod_region ?_ | refine run_nil ?_ | refine pst_then ?_ | (apply cod_cond_f; (focus rfl)) | refine cod_skip ?_ | (apply run_osg 10; (focus rfl); (focus exact wt); (focus rfl); (focus (exact opr_buildSlice rfl rfl rfl (by exact blda) rfl rfl (by decide) rfl)); (rintro _ _ ⟨q, rfl, rfl⟩)) | (apply run_osg 7; (focus rfl); (focus exact wt); (focus rfl); (focus (exact opr_call_ls (by rfl) (E0 ..) (by rfl) lpa)); (rintro _ _ ⟨rfl, rfl⟩))))
      (refine run_os wt rfl (opr_call_l rfl (C1) rfl (by exact lpa)) ?_; rintro _ _ ⟨_, ⟨q1, c1, rfl, rfl⟩, rfl⟩; dsimp only [List.cons_append, List.nil_append])
      (repeat' (first | (apply run_qg 1; (focus rfl); (focus exact wt); (focus rfl); (focus (exact qg1))) | (apply run_qg 4; (focus rfl); (focus exact wt); (focus rfl); (focus (first | exact qg4 | exact qs4))) | (apply run_qg 6; (focus rfl); (focus exact wt); (focus rfl); (focus (first | exact qs6 | exact qg6 | exact q_max rfl rfl rfl | exact q_sliceData rfl rfl (by omega) | exact q_sliceDataN rfl rfl | exact q_unsafeStringN rfl rfl rfl | exact q_cap_slice rfl rfl))) | refine cod_seq ?_ | refine cod_region ?_ | refine run_nil ?_ | refine pst_then ?_ | (apply cod_cond_t; (focus rfl)) | refine cod_ret ?_ | refine pst_then_ret ?_))
      exact pst_fin rfl (by exact resa) _ (⟨rfl, rfl⟩) (by exact hsa)
theorem walk (s : ByteArray) (hs : s.size ≤ reachBytes) (W : World) :
    Calls Try.prog 8 #[.string s] W fun e w' => e = .returned (.bool true) ∧ Below W.heap.size W w' := by
  obtain ⟨l, rfl, hl⟩ := str_of s
  have hr : reachBytes = 140737488351232 := rfl
  exact law_of_ct sh_nil (law_any l (by unfold maxLen; omega))
end Go.Proofs.Ytknclflgghnojaa.lawPathBack
