/-
  PathDots: the walk.
-/
import Derived.Test.YtknclflgghnojaaPathLaw
import Derived.Test.YtknclflgghnojaaOwnT
import Derived.Test.YtknclflgghnojaaOpen2
namespace Go.Proofs.Ytknclflgghnojaa.lawPathDots
open Go.RowKit kit sl Go.Proofs.Ytknclflgghnojaa.way Go.Proofs.Ytknclflgghnojaa.nam Go.Proofs.Ytknclflgghnojaa.own
open Go.Proofs.Ytknclflgghnojaa.file (fT one_fT equal_T)
set_option linter.unusedVariables false
theorem split_is {s : List UInt8} {l : List (List UInt8)} {e : Int} (hs : s.length ≤ maxLen) (h : splitV s = (l, e)) : Ct Try.prog 33 [.string (str s)] [] fun v H' => ∃ q c, v = .tuple #[.slice q l.length c, .int .i64 e] ∧ H' = [own (.slice q l.length c) 9 1 l.length (flat fT l)] := by
  have := split_any s hs
  unfold SplitOut at this
  rwa [h] at this
attribute [local irreducible] box own sl old bptr eptr Qt Opr Run Cod Pst Drn
set_option maxRecDepth 100000 in
set_option maxHeartbeats 8000000 in
theorem law_any (s x : List UInt8) (hs : s.length ≤ 140737488351232) (hx : x.length ≤ 140737488351232) :
    Ct Try.prog 9 [.string (str s), .string (str x)] [] fun v H' => v = .bool true ∧ H' = [] := by
  have hw := split_well s
  have hm : maxLen = 9223372036854775807 := rfl
  have G0 := good_any x (by omega)
  cases hsp : splitV s with
  | mk l e =>
    rw [hsp] at hw
    obtain ⟨hw1, hw2⟩ := hw
    dsimp only at hw1 hw2
    have C1 := split_is (by omega) hsp
    by_cases he : e = 0
    · subst he
      have hl8 := hw1.1
      by_cases h150 : 150 < s.length
      · (refine spec_enter Try.func9 Try.ntmps9 rfl rfl fun Fr => ?_; dsimp only [List.cons_append, List.nil_append, ini, Nat.reduceAdd])
        (repeat' (first | (apply run_qg 1; (focus rfl); (focus exact wt); (focus rfl); (focus (exact qg1))) | refine cod_seq ?_ | refine cod_region ?_ | refine run_nil ?_ | refine pst_then ?_))
        (refine run_os wt rfl (opr_call_l rfl (C1) rfl (by exact lpa)) ?_; rintro _ _ ⟨_, ⟨q1, c1, rfl, rfl⟩, rfl⟩; dsimp only [List.cons_append, List.nil_append])
        (repeat' (first | (apply run_qg 1; (focus rfl); (focus exact wt); (focus rfl); (focus (exact qg1))) | (apply run_qg 4; (focus rfl); (focus exact wt); (focus rfl); (focus (first | exact qg4 | exact qs4))) | (apply run_qg 6; (focus rfl); (focus exact wt); (focus rfl); (focus (first | exact qs6 | exact qg6 | exact q_max rfl rfl rfl | exact q_sliceData rfl rfl (by omega) | exact q_sliceDataN rfl rfl | exact q_unsafeStringN rfl rfl rfl | exact q_cap_slice rfl rfl))) | refine cod_seq ?_ | refine cod_region ?_ | refine run_nil ?_ | refine pst_then ?_ | (apply cod_cond_t; (focus rfl)) | refine cod_ret ?_ | refine pst_then_ret ?_ | (apply run_offs; (focus rfl); (focus rfl); (focus rfl))))
        exact pst_fin rfl (by exact resa) _ (⟨rfl, rfl⟩) (by exact hsa)
      · by_cases hg : goodN x
        · have g0 : goodE x = 0 := by unfold goodE; rw [if_pos hg]
          rw [g0] at G0
          have hx12 := hg.2.2.2.1
          have C2 := split_is (s := s ++ [47, 46, 47]) (by simp; omega) (split_stay hsp (by omega))
          have E1 := fun qa qb ca cb => ct_true (equal_T qa qb ca cb l l (by unfold maxLen; omega) (by unfold maxLen; omega)) rfl
          have hup := split_up hsp (by omega) hg
          have hdn := split_down hsp (by omega) hg
          rw [show s ++ 47 :: (x ++ [47, 46, 46]) = s ++ [47] ++ x ++ [47, 46, 46] by simp] at hup
          rw [show s ++ 47 :: x = s ++ [47] ++ x by simp] at hdn
          by_cases h8 : l.length = 8
          · rw [if_pos h8] at hup
            have C3 := split_is (by simp; omega) hup
            (refine spec_enter Try.func9 Try.ntmps9 rfl rfl fun Fr => ?_; dsimp only [List.cons_append, List.nil_append, ini, Nat.reduceAdd])
            (repeat' (first | (apply run_qg 1; (focus rfl); (focus exact wt); (focus rfl); (focus (exact qg1))) | refine cod_seq ?_ | refine cod_region ?_ | refine run_nil ?_ | refine pst_then ?_))
            (refine run_os wt rfl (opr_call_l rfl (C1) rfl (by exact lpa)) ?_; rintro _ _ ⟨_, ⟨q1, c1, rfl, rfl⟩, rfl⟩; dsimp only [List.cons_append, List.nil_append])
            (repeat' (first | (apply run_qg 1; (focus rfl); (focus exact wt); (focus rfl); (focus (exact qg1))) | (apply run_qg 4; (focus rfl); (focus exact wt); (focus rfl); (focus (first | exact qg4 | exact qs4))) | (apply run_qg 6; (focus rfl); (focus exact wt); (focus rfl); (focus (first | exact qs6 | exact qg6 | exact q_max rfl rfl rfl | exact q_sliceData rfl rfl (by omega) | exact q_sliceDataN rfl rfl | exact q_unsafeStringN rfl rfl rfl | exact q_cap_slice rfl rfl))) | refine cod_seq ?_ | refine cod_region ?_ | refine run_nil ?_ | refine pst_then ?_ | (apply cod_cond_f; (focus rfl)) | refine cod_skip ?_ | (apply run_osg 7; (focus rfl); (focus exact wt); (focus rfl); (focus (exact opr_call_ls (by rfl) (G0 ..) (by rfl) lpa)); (rintro _ _ ⟨rfl, rfl⟩))))
            (refine run_os wt rfl (opr_call_l rfl (C2) rfl (by exact lpa)) ?_; rintro _ _ ⟨_, ⟨q2, c2, rfl, rfl⟩, rfl⟩; dsimp only [List.cons_append, List.nil_append])
            (repeat' (first | (apply run_qg 1; (focus rfl); (focus exact wt); (focus rfl); (focus (exact qg1))) | (apply run_qg 4; (focus rfl); (focus exact wt); (focus rfl); (focus (first | exact qg4 | exact qs4))) | refine cod_seq ?_ | refine cod_region ?_ | refine run_nil ?_ | refine pst_then ?_ | (apply cod_cond_f; (focus rfl)) | refine cod_skip ?_ | (apply run_osg 7; (focus rfl); (focus exact wt); (focus rfl); (focus (exact opr_call_ls (by rfl) (E1 ..) (by rfl) lpa)); (rintro _ _ ⟨rfl, rfl⟩))))
            (refine run_os wt rfl (opr_call_l rfl (C3) rfl (by exact lpa)) ?_; rintro _ _ ⟨_, ⟨q3, c3, rfl, rfl⟩, rfl⟩; dsimp only [List.cons_append, List.nil_append])
            (repeat' (first | (apply run_qg 1; (focus rfl); (focus exact wt); (focus rfl); (focus (exact qg1))) | (apply run_qg 4; (focus rfl); (focus exact wt); (focus rfl); (focus (first | exact qg4 | exact qs4))) | (apply run_qg 6; (focus rfl); (focus exact wt); (focus rfl); (focus (first | exact qs6 | exact qg6 | exact q_max rfl rfl rfl | exact q_sliceData rfl rfl (by omega) | exact q_sliceDataN rfl rfl | exact q_unsafeStringN rfl rfl rfl | exact q_cap_slice rfl rfl))) | refine cod_seq ?_ | refine cod_region ?_ | refine run_nil ?_ | refine pst_then ?_ | (apply cod_cond_t; (focus rfl)) | refine cod_ret ?_ | refine pst_then_ret ?_))
            exact pst_fin rfl (by exact resa) _ (⟨rfl, rfl⟩) (by exact hsa)
          · rw [if_neg h8] at hup hdn
            have C3 := split_is (by simp; omega) hup
            have C4 := split_is (by simp; omega) hdn
            have K1 := fun q c => clone_T q c l (by omega)
            have E2 := fun qa qb ca cb => ct_true (equal_T qa qb ca cb (l ++ [x]) (l ++ [x]) (by rw [List.length_append, List.length_singleton]; unfold maxLen; omega) (by rw [List.length_append, List.length_singleton]; unfold maxLen; omega)) rfl
            (refine spec_enter Try.func9 Try.ntmps9 rfl rfl fun Fr => ?_; dsimp only [List.cons_append, List.nil_append, ini, Nat.reduceAdd])
            (repeat' (first | (apply run_qg 1; (focus rfl); (focus exact wt); (focus rfl); (focus (exact qg1))) | refine cod_seq ?_ | refine cod_region ?_ | refine run_nil ?_ | refine pst_then ?_))
            (refine run_os wt rfl (opr_call_l rfl (C1) rfl (by exact lpa)) ?_; rintro _ _ ⟨_, ⟨q1, c1, rfl, rfl⟩, rfl⟩; dsimp only [List.cons_append, List.nil_append])
            (repeat' (first | (apply run_qg 1; (focus rfl); (focus exact wt); (focus rfl); (focus (exact qg1))) | (apply run_qg 4; (focus rfl); (focus exact wt); (focus rfl); (focus (first | exact qg4 | exact qs4))) | (apply run_qg 6; (focus rfl); (focus exact wt); (focus rfl); (focus (first | exact qs6 | exact qg6 | exact q_max rfl rfl rfl | exact q_sliceData rfl rfl (by omega) | exact q_sliceDataN rfl rfl | exact q_unsafeStringN rfl rfl rfl | exact q_cap_slice rfl rfl))) | refine cod_seq ?_ | refine cod_region ?_ | refine run_nil ?_ | refine pst_then ?_ | (apply cod_cond_f; (focus rfl)) | refine cod_skip ?_ | (apply run_osg 7; (focus rfl); (focus exact wt); (focus rfl); (focus (exact opr_call_ls (by rfl) (G0 ..) (by rfl) lpa)); (rintro _ _ ⟨rfl, rfl⟩))))
            (refine run_os wt rfl (opr_call_l rfl (C2) rfl (by exact lpa)) ?_; rintro _ _ ⟨_, ⟨q2, c2, rfl, rfl⟩, rfl⟩; dsimp only [List.cons_append, List.nil_append])
            (repeat' (first | (apply run_qg 1; (focus rfl); (focus exact wt); (focus rfl); (focus (exact qg1))) | (apply run_qg 4; (focus rfl); (focus exact wt); (focus rfl); (focus (first | exact qg4 | exact qs4))) | refine cod_seq ?_ | refine cod_region ?_ | refine run_nil ?_ | refine pst_then ?_ | (apply cod_cond_f; (focus rfl)) | refine cod_skip ?_ | (apply run_osg 7; (focus rfl); (focus exact wt); (focus rfl); (focus (exact opr_call_ls (by rfl) (E1 ..) (by rfl) lpa)); (rintro _ _ ⟨rfl, rfl⟩))))
            (refine run_os wt rfl (opr_call_l rfl (C3) rfl (by exact lpa)) ?_; rintro _ _ ⟨_, ⟨q3, c3, rfl, rfl⟩, rfl⟩; dsimp only [List.cons_append, List.nil_append])
            (repeat' (first | (apply run_qg 1; (focus rfl); (focus exact wt); (focus rfl); (focus (exact qg1))) | (apply run_qg 4; (focus rfl); (focus exact wt); (focus rfl); (focus (first | exact qg4 | exact qs4))) | (apply run_qg 6; (focus rfl); (focus exact wt); (focus rfl); (focus (first | exact qs6 | exact qg6 | exact q_max rfl rfl rfl | exact q_sliceData rfl rfl (by omega) | exact q_sliceDataN rfl rfl | exact q_unsafeStringN rfl rfl rfl | exact q_cap_slice rfl rfl))) | refine cod_seq ?_ | refine cod_region ?_ | refine run_nil ?_ | refine pst_then ?_ | (apply cod_cond_f; (focus rfl)) | refine cod_skip ?_))
            (refine run_os wt rfl (opr_call_l rfl (C4) rfl (by exact lpa)) ?_; rintro _ _ ⟨_, ⟨q4, c4, rfl, rfl⟩, rfl⟩; dsimp only [List.cons_append, List.nil_append])
            (repeat' (first | (apply run_qg 1; (focus rfl); (focus exact wt); (focus rfl); (focus (exact qg1))) | (apply run_qg 4; (focus rfl); (focus exact wt); (focus rfl); (focus (first | exact qg4 | exact qs4))) | refine cod_seq ?_ | refine cod_region ?_ | refine run_nil ?_ | refine pst_then ?_ | (apply run_osg 7; (focus rfl); (focus exact wt); (focus rfl); (focus (exact opr_call_ls (by rfl) (E1 ..) (by rfl) lpa)); (rintro _ _ ⟨rfl, rfl⟩))))
            (refine run_os wt rfl (opr_call_l rfl (K1 _ _) rfl (by exact lpa)) ?_; rintro _ _ ⟨_, ⟨q5, c5, rfl, rfl⟩, rfl⟩; dsimp only [List.cons_append, List.nil_append])
            (repeat' (first | (apply run_qg 1; (focus rfl); (focus exact wt); (focus rfl); (focus (exact qg1))) | (apply run_osg 10; (focus rfl); (focus exact wt); (focus rfl); (focus (exact opr_buildSlice rfl rfl rfl (by exact blda) rfl rfl (by decide) rfl)); (rintro _ _ ⟨q, rfl, rfl⟩))))
            refine run_os wt rfl (by first | exact opr_append_lit0 (fT) [x] rfl rfl rfl (by exact pka) (by rfl) (by rfl) (by intro _; rfl) (by (first | exact one_fS | exact one_fI | exact one_fB | exact one_fP | exact one_fIIS | exact one_fIIIS | exact one_fII | exact one_fSI | exact one_fIIU | exact one_fY | exact one_fBl | exact one_fT | exact one_fE | assumption)) rfl (by simp only [List.length_cons, List.length_nil]; omega) (by (unfold maxLen); simp only [List.length_cons, List.length_nil]; omega) | exact opr_append_lit (fT) [x] rfl rfl rfl (by exact pka) (by exact pka) (by rfl) (by rfl) (by first | rfl | omega) (by intro _; rfl) (by (first | exact one_fS | exact one_fI | exact one_fB | exact one_fP | exact one_fIIS | exact one_fIIIS | exact one_fII | exact one_fSI | exact one_fIIU | exact one_fY | exact one_fBl | exact one_fT | exact one_fE | assumption)) rfl (by simp only [List.length_cons, List.length_nil]; omega) (by (unfold maxLen); simp only [List.length_cons, List.length_nil]; omega)) ?_
            rintro _ _ ⟨q6, c6, rfl, rfl⟩
            (repeat' (first | (apply run_qg 1; (focus rfl); (focus exact wt); (focus rfl); (focus (exact qg1))) | refine run_nil ?_ | refine pst_then ?_ | refine cod_ret ?_ | (apply run_osg 7; (focus rfl); (focus exact wt); (focus rfl); (focus (exact opr_call_ls (by rfl) (E2 ..) (by rfl) lpa)); (rintro _ _ ⟨rfl, rfl⟩))))
            exact pst_fin rfl (by exact resa) _ (⟨rfl, rfl⟩) (by exact hsa)
        · have g0 : goodE x = 11 := by unfold goodE; rw [if_neg hg]
          rw [g0] at G0
          (refine spec_enter Try.func9 Try.ntmps9 rfl rfl fun Fr => ?_; dsimp only [List.cons_append, List.nil_append, ini, Nat.reduceAdd])
          (repeat' (first | (apply run_qg 1; (focus rfl); (focus exact wt); (focus rfl); (focus (exact qg1))) | refine cod_seq ?_ | refine cod_region ?_ | refine run_nil ?_ | refine pst_then ?_))
          (refine run_os wt rfl (opr_call_l rfl (C1) rfl (by exact lpa)) ?_; rintro _ _ ⟨_, ⟨q1, c1, rfl, rfl⟩, rfl⟩; dsimp only [List.cons_append, List.nil_append])
          (repeat' (first | (apply run_qg 1; (focus rfl); (focus exact wt); (focus rfl); (focus (exact qg1))) | (apply run_qg 4; (focus rfl); (focus exact wt); (focus rfl); (focus (first | exact qg4 | exact qs4))) | (apply run_qg 6; (focus rfl); (focus exact wt); (focus rfl); (focus (first | exact qs6 | exact qg6 | exact q_max rfl rfl rfl | exact q_sliceData rfl rfl (by omega) | exact q_sliceDataN rfl rfl | exact q_unsafeStringN rfl rfl rfl | exact q_cap_slice rfl rfl))) | refine cod_seq ?_ | refine cod_region ?_ | refine run_nil ?_ | refine pst_then ?_ | (apply cod_cond_t; (focus rfl)) | refine cod_ret ?_ | refine pst_then_ret ?_ | (apply run_offs; (focus rfl); (focus rfl); (focus rfl)) | (apply run_osg 7; (focus rfl); (focus exact wt); (focus rfl); (focus (exact opr_call_ls (by rfl) (G0 ..) (by rfl) lpa)); (rintro _ _ ⟨rfl, rfl⟩))))
          exact pst_fin rfl (by exact resa) _ (⟨rfl, rfl⟩) (by exact hsa)
    · have hl : l = [] := hw2.resolve_left he
      subst hl
      (refine spec_enter Try.func9 Try.ntmps9 rfl rfl fun Fr => ?_; dsimp only [List.cons_append, List.nil_append, ini, Nat.reduceAdd])
      (repeat' (first | (apply run_qg 1; (focus rfl); (focus exact wt); (focus rfl); (focus (exact qg1))) | refine cod_seq ?_ | refine cod_region ?_ | refine run_nil ?_ | refine pst_then ?_))
      (refine run_os wt rfl (opr_call_l rfl (C1) rfl (by exact lpa)) ?_; rintro _ _ ⟨_, ⟨q1, c1, rfl, rfl⟩, rfl⟩; dsimp only [List.cons_append, List.nil_append])
      (repeat' (first | (apply run_qg 1; (focus rfl); (focus exact wt); (focus rfl); (focus (exact qg1))) | (apply run_qg 4; (focus rfl); (focus exact wt); (focus rfl); (focus (first | exact qg4 | exact qs4))) | (apply run_qg 6; (focus rfl); (focus exact wt); (focus rfl); (focus (first | exact qs6 | exact qg6 | exact q_max rfl rfl rfl | exact q_sliceData rfl rfl (by omega) | exact q_sliceDataN rfl rfl | exact q_unsafeStringN rfl rfl rfl | exact q_cap_slice rfl rfl))) | refine cod_seq ?_ | refine cod_region ?_ | refine run_nil ?_ | refine pst_then ?_ | (apply cod_cond_t; (focus rfl)) | refine cod_ret ?_ | refine pst_then_ret ?_ | (apply run_offs; (focus rfl); (focus rfl); (focus rfl))))
      exact pst_fin rfl (by exact resa) _ (⟨rfl, rfl⟩) (by exact hsa)
theorem walk (s : ByteArray) (hs : s.size ≤ reachBytes) (t : ByteArray) (ht : t.size ≤ reachBytes) (W : World) :
    Calls Try.prog 9 #[.string s, .string t] W fun e w' => e = .returned (.bool true) ∧ Below W.heap.size W w' := by
  obtain ⟨l, rfl, hl⟩ := str_of s
  obtain ⟨x, rfl, hx⟩ := str_of t
  have hr : reachBytes = 140737488351232 := rfl
  exact law_of_ct sh_nil (law_any l x (by omega) (by omega))
end Go.Proofs.Ytknclflgghnojaa.lawPathDots
