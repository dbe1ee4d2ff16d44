/-
  CodeBack: the walk, case D (printed by gen_codeback.py).
-/
import Derived.Test.YtnejhldagkennaaCodeBackH
namespace Go.Proofs.Ytnejhldagkennaa.lawCodeBack
open Go.RowKit kit sl Go.Proofs.Ytnejhldagkennaa.code Go.Proofs.Ytnejhldagkennaa.lens Go.Proofs.Ytnejhldagkennaa.bits Go.Proofs.Ytnejhldagkennaa.pieces
set_option linter.unusedVariables false
attribute [local irreducible] box own sl old bptr eptr Qt Opr Run Cod Pst Drn
set_option maxRecDepth 100000 in
set_option maxHeartbeats 8000000 in
theorem law_D (q qs qa : Option Addr) (c cs ca : Nat) (l signs : List Int) (ah : List (Int × Int)) (hg : ∀ x ∈ l, (Lit.int .i64 x).wf = true) (hn : l.length ≤ 1000000000000000) (hs : signs.length ≤ 1000000000000000) (hcs : signs.length ≤ cs) (hga : ∀ p ∈ ah, (Lit.int .u64 p.1).wf = true ∧ (Lit.int .i64 p.2).wf = true) (hna : ah.length ≤ 8796093022207) {ps : List (Int × Int)} {e : Int} (hwv : writeV l (signs.take (min signs.length 1024)) = (ps, e)) (he : e ≠ 0) :
    Ct Try.prog 7 [.slice q l.length c, .slice qs signs.length cs, .slice qa ah.length ca] [sl 1 (.slice q l.length c) (l.map fI), sl 1 (.slice qs signs.length cs) (signs.map fI), sl 2 (.slice qa ah.length ca) (ah.map fPc)] fun v H' => v = .bool true ∧ H' = [] := by
  obtain ⟨w0, hw0, hw0l, hp0, hb0, hg0⟩ := way0
  have W0 := fun q qs c cs => write_is (q := q) (qs := qs) (c := c) (cs := cs) (m := 3) (l := [1, 2, 2]) (t := [1, 0, 2]) (by decide) (by decide) rfl (by decide) hw0
  have P0 := fun q c => pack_ct q c w0 hg0 (by omega) hp0 (by rw [if_pos hp0, hb0])
  clear hp0 hb0 hg0 hw0
  obtain ⟨m, hmm⟩ : ∃ m, m = min signs.length 1024 := ⟨_, rfl⟩
  rw [← hmm] at hwv
  have hml : m ≤ signs.length := by omega
  have hm1024 : m ≤ 1024 := by omega
  have htl : (signs.take m).length = m := by rw [List.length_take]; omega
  have K0 := write_is (q := q) (qs := qs) (c := c) (cs := cs) hg hn htl hm1024 hwv
  have hps : ps = [] := by
    have := write_bad (l := l) (t := signs.take m)
    rw [hwv] at this
    exact this he
  subst hps
  clear hwv
  rcases Nat.lt_or_ge 1024 signs.length with h | h
  · obtain rfl : m = 1024 := by omega
    clear hmm
    (refine spec_enter Try.func7 Try.ntmps7 rfl rfl fun Fr => ?_; dsimp only [List.cons_append, List.nil_append, ini, Nat.reduceAdd])
    (repeat' (first | (apply run_qg 1; (focus rfl); (focus exact wt); (focus rfl); (focus (exact qg1))) | refine cod_seq ?_ | refine cod_region ?_ | refine run_nil ?_ | refine pst_then ?_ | (apply run_osg 10; (focus rfl); (focus exact wt); (focus rfl); (focus (exact opr_buildSlice rfl rfl rfl (by exact blda) rfl rfl (by decide) rfl)); (rintro _ _ ⟨q, rfl, rfl⟩))))
    (refine run_os wt rfl (opr_call_l rfl (W0 _ _ _ _) rfl (by exact lpa)) ?_; rintro _ _ ⟨_, ⟨q0, c0, rfl, rfl⟩, rfl⟩; dsimp only [List.cons_append, List.nil_append])
    (repeat' (first | (apply run_qg 1; (focus rfl); (focus exact wt); (focus rfl); (focus (exact qg1))) | (apply run_qg 4; (focus rfl); (focus exact wt); (focus rfl); (focus (first | exact qg4 | exact qs4))) | (apply run_qg 6; (focus rfl); (focus exact wt); (focus rfl); (focus (first | exact qs6 | exact qg6 | exact q_max rfl rfl rfl | exact q_sliceData rfl rfl (by omega) | exact q_sliceDataN rfl rfl | exact q_unsafeStringN rfl rfl rfl | exact q_cap_slice rfl rfl))) | refine cod_seq ?_ | refine cod_region ?_ | refine run_nil ?_ | refine pst_then ?_ | (apply cod_cond_t; (focus rfl)) | (apply cod_cond_f; (focus rfl)) | refine cod_skip ?_ | (apply run_osg 7; (focus rfl); (focus exact wt); (focus rfl); (focus (exact opr_call_ls (by rfl) (P0 ..) (by rfl) lpa)); (rintro _ _ ⟨rfl, rfl⟩))))
    refine run_qg 12 rfl wt rfl (q_slice_cap (m := 1024) rfl rfl rfl rfl (by omega)) ?_
    (repeat' (first | (apply run_qg 1; (focus rfl); (focus exact wt); (focus rfl); (focus (exact qg1))) | refine cod_seq ?_ | refine cod_region ?_ | refine run_nil ?_ | refine pst_then ?_))
    (refine run_os wt rfl (opr_call_l rfl (K0) rfl (by exact lpa)) ?_; rintro _ _ ⟨_, ⟨q1, c1, rfl, rfl⟩, rfl⟩; dsimp only [List.cons_append, List.nil_append])
    (repeat' (first | (apply run_qg 1; (focus rfl); (focus exact wt); (focus rfl); (focus (exact qg1))) | (apply run_qg 4; (focus rfl); (focus exact wt); (focus rfl); (focus (first | exact qg4 | exact qs4))) | (apply run_qg 6; (focus rfl); (focus exact wt); (focus rfl); (focus (first | exact qs6 | exact qg6 | exact q_max rfl rfl rfl | exact q_sliceData rfl rfl (by omega) | exact q_sliceDataN rfl rfl | exact q_unsafeStringN rfl rfl rfl | exact q_cap_slice rfl rfl))) | refine cod_seq ?_ | refine cod_region ?_ | refine run_nil ?_ | refine pst_then ?_ | (apply cod_cond_t; (focus rfl)) | refine cod_ret ?_ | refine pst_then_ret ?_))
    exact pst_fin rfl (by exact resa) _ (⟨rfl, rfl⟩) (by exact hsa)
  · obtain rfl : m = signs.length := by omega
    clear hmm
    (refine spec_enter Try.func7 Try.ntmps7 rfl rfl fun Fr => ?_; dsimp only [List.cons_append, List.nil_append, ini, Nat.reduceAdd])
    (repeat' (first | (apply run_qg 1; (focus rfl); (focus exact wt); (focus rfl); (focus (exact qg1))) | refine cod_seq ?_ | refine cod_region ?_ | refine run_nil ?_ | refine pst_then ?_ | (apply run_osg 10; (focus rfl); (focus exact wt); (focus rfl); (focus (exact opr_buildSlice rfl rfl rfl (by exact blda) rfl rfl (by decide) rfl)); (rintro _ _ ⟨q, rfl, rfl⟩))))
    (refine run_os wt rfl (opr_call_l rfl (W0 _ _ _ _) rfl (by exact lpa)) ?_; rintro _ _ ⟨_, ⟨q0, c0, rfl, rfl⟩, rfl⟩; dsimp only [List.cons_append, List.nil_append])
    (repeat' (first | (apply run_qg 1; (focus rfl); (focus exact wt); (focus rfl); (focus (exact qg1))) | (apply run_qg 4; (focus rfl); (focus exact wt); (focus rfl); (focus (first | exact qg4 | exact qs4))) | (apply run_qg 6; (focus rfl); (focus exact wt); (focus rfl); (focus (first | exact qs6 | exact qg6 | exact q_max rfl rfl rfl | exact q_sliceData rfl rfl (by omega) | exact q_sliceDataN rfl rfl | exact q_unsafeStringN rfl rfl rfl | exact q_cap_slice rfl rfl))) | refine cod_seq ?_ | refine cod_region ?_ | refine run_nil ?_ | refine pst_then ?_ | (apply cod_cond_f; (focus rfl)) | refine cod_skip ?_ | (apply run_osg 7; (focus rfl); (focus exact wt); (focus rfl); (focus (exact opr_call_ls (by rfl) (P0 ..) (by rfl) lpa)); (rintro _ _ ⟨rfl, rfl⟩))))
    (refine run_os wt rfl (opr_call_l rfl (K0) rfl (by exact lpa)) ?_; rintro _ _ ⟨_, ⟨q1, c1, rfl, rfl⟩, rfl⟩; dsimp only [List.cons_append, List.nil_append])
    (repeat' (first | (apply run_qg 1; (focus rfl); (focus exact wt); (focus rfl); (focus (exact qg1))) | (apply run_qg 4; (focus rfl); (focus exact wt); (focus rfl); (focus (first | exact qg4 | exact qs4))) | (apply run_qg 6; (focus rfl); (focus exact wt); (focus rfl); (focus (first | exact qs6 | exact qg6 | exact q_max rfl rfl rfl | exact q_sliceData rfl rfl (by omega) | exact q_sliceDataN rfl rfl | exact q_unsafeStringN rfl rfl rfl | exact q_cap_slice rfl rfl))) | refine cod_seq ?_ | refine cod_region ?_ | refine run_nil ?_ | refine pst_then ?_ | (apply cod_cond_t; (focus rfl)) | refine cod_ret ?_ | refine pst_then_ret ?_))
    exact pst_fin rfl (by exact resa) _ (⟨rfl, rfl⟩) (by exact hsa)
end Go.Proofs.Ytnejhldagkennaa.lawCodeBack

