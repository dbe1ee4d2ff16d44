/-
  Several texts in one: WalkPressBack.
-/
import Derived.Test.YtppnaofebkpbkaaMgT
import Derived.Test.YtppnaofebkpbkaaOpen2
/-
  PressBack: the walk. (SAFE)
-/
namespace Go.Proofs.Ytppnaofebkpbkaa.lawPressBack
open Go.RowKit kit sl Go.Proofs.Ytppnaofebkpbkaa.press
set_option linter.unusedVariables false
attribute [local irreducible] box own sl old bptr eptr Qt Opr Run Cod Pst Drn
set_option maxRecDepth 100000 in
set_option maxHeartbeats 8000000 in
theorem law_any (s : List UInt8) (hm : s.length ≤ 140737488351232) :
    Ct Try.prog 6 [.string (str s)] [] fun v H' => v = .bool true ∧ H' = [] := by
  have hml : maxLen = 9223372036854775807 := rfl
  rcases Nat.lt_or_ge 512 s.length with h | h
  · have F1 := press_far s h (by omega)
    have e1 : (([] : List UInt8) == []) = true := rfl
    (refine spec_enter Try.func6 Try.ntmps6 rfl rfl fun Fr => ?_; dsimp only [List.cons_append, List.nil_append, ini, Nat.reduceAdd])
    (repeat' (first | (apply run_qg 1; (focus rfl); (focus exact wt); (focus rfl); (focus (exact qg1))) | (apply run_qg 4; (focus rfl); (focus exact wt); (focus rfl); (focus (first | exact qg4 | exact qs4))) | (apply run_qg 6; (focus rfl); (focus exact wt); (focus rfl); (focus (first | exact qs6 | exact qg6 | exact q_max rfl rfl rfl | exact q_sliceData rfl rfl (by omega) | exact q_sliceDataN rfl rfl | exact q_unsafeStringN rfl rfl rfl | exact q_cap_slice rfl rfl))) | refine cod_seq ?_ | refine cod_region ?_ | refine run_nil ?_ | refine pst_then ?_ | (apply cod_cond_t; (focus rfl)) | refine cod_ret ?_ | refine pst_then_ret ?_ | (apply run_osg 7; (focus rfl); (focus exact wt); (focus rfl); (focus (exact opr_call_ls (by rfl) (F1 ..) (by rfl) lpa)); (rintro _ _ ⟨rfl, rfl⟩)) | fail))
    exact pst_fin rfl (by exact resa) _ (⟨rfl, rfl⟩) (by exact hsa)
  · have F1 := press_any s h
    have OP := fun t hR => open_any (t := t) h hR
    have e1 : (s == s) = true := by simp
    (refine spec_enter Try.func6 Try.ntmps6 rfl rfl fun Fr => ?_; dsimp only [List.cons_append, List.nil_append, ini, Nat.reduceAdd])
    (repeat' (first | (apply run_qg 1; (focus rfl); (focus exact wt); (focus rfl); (focus (exact qg1))) | refine cod_seq ?_ | refine cod_region ?_ | refine run_nil ?_ | refine pst_then ?_ | fail))
    (refine run_os wt rfl (opr_call_l rfl (F1) rfl (by exact lpa)) ?_; rintro _ _ ⟨_, ⟨t, hF, rfl, rfl⟩, rfl⟩; try dsimp only [List.cons_append, List.nil_append])
    have OP := OP t hF
    (repeat' (first | (apply run_qg 1; (focus rfl); (focus exact wt); (focus rfl); (focus (exact qg1))) | (apply run_qg 4; (focus rfl); (focus exact wt); (focus rfl); (focus (first | exact qg4 | exact qs4))) | (apply run_qg 6; (focus rfl); (focus exact wt); (focus rfl); (focus (first | exact qs6 | exact qg6 | exact q_max rfl rfl rfl | exact q_sliceData rfl rfl (by omega) | exact q_sliceDataN rfl rfl | exact q_unsafeStringN rfl rfl rfl | exact q_cap_slice rfl rfl))) | refine cod_seq ?_ | refine cod_region ?_ | refine run_nil ?_ | refine pst_then ?_ | (apply cod_cond_f; (focus rfl)) | refine cod_ret ?_ | refine cod_skip ?_ | (apply run_osg 7; (focus rfl); (focus exact wt); (focus rfl); (focus (exact opr_call_ls (by rfl) (OP ..) (by rfl) lpa)); (rintro _ _ ⟨rfl, rfl⟩)) | fail))
    exact pst_fin rfl (by exact resa) _ (⟨rfl, rfl⟩) (by exact hsa)
theorem walk (s : ByteArray) (hs : s.size ≤ reachBytes) (W : World) :
    Calls Try.prog 6 #[.string s] W fun e w' => e = .returned (.bool true) ∧ Below W.heap.size W w' := by
  obtain ⟨l, rfl, hl⟩ := str_of s
  have hr : reachBytes = 140737488351232 := rfl
  rw [hr, ← hl] at hs
  exact law_of_ct sh_nil (law_any l hs)
end Go.Proofs.Ytppnaofebkpbkaa.lawPressBack
