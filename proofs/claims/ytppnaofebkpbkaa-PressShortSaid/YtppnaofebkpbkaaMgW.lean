/-
  Several texts in one: WalkPressShort.
-/
import Derived.Test.YtppnaofebkpbkaaMgT
import Derived.Test.YtppnaofebkpbkaaOpen2
/-
  PressShort: the walk. (SAFE)
-/
namespace Go.Proofs.Ytppnaofebkpbkaa.lawPressShort
open Go.RowKit kit sl Go.Proofs.Ytppnaofebkpbkaa.press
set_option linter.unusedVariables false
theorem within_ct (k n : Int) (h1 : 1 ≤ n) (h2 : n ≤ 9223372036854775807) : Ct Try.prog 16 [.int .i64 k, .int .i64 n] [] fun v H' => v = .int .i64 (within.withinF k n) ∧ H' = [] :=
  ct_of_calls fun W _ => (within.within_any k n h1 h2 W).mono fun e w' ⟨h1, h2⟩ => ⟨h1, by rw [h2]; exact Below.refl _ _⟩
attribute [local irreducible] box own sl old bptr eptr Qt Opr Run Cod Pst Drn
set_option maxRecDepth 100000 in
set_option maxHeartbeats 8000000 in
theorem law_any (s : List UInt8) (k : Int) (hm : s.length ≤ 140737488351232) :
    Ct Try.prog 5 [.string (str s), .int .i64 k] [] fun v H' => v = .bool true ∧ H' = [] := by
  have hml : maxLen = 9223372036854775807 := rfl
  rcases Nat.lt_or_ge 512 s.length with h | h
  · have F1 := press_far s h (by omega)
    (refine spec_enter Try.func5 Try.ntmps5 rfl rfl fun Fr => ?_; dsimp only [List.cons_append, List.nil_append, ini, Nat.reduceAdd])
    (repeat' (first | (apply run_qg 1; (focus rfl); (focus exact wt); (focus rfl); (focus (exact qg1))) | (apply run_qg 4; (focus rfl); (focus exact wt); (focus rfl); (focus (first | exact qg4 | exact qs4))) | (apply run_qg 6; (focus rfl); (focus exact wt); (focus rfl); (focus (first | exact qs6 | exact qg6 | exact q_max rfl rfl rfl | exact q_sliceData rfl rfl (by omega) | exact q_sliceDataN rfl rfl | exact q_unsafeStringN rfl rfl rfl | exact q_cap_slice rfl rfl))) | refine cod_seq ?_ | refine cod_region ?_ | refine run_nil ?_ | refine pst_then ?_ | (apply cod_cond_t; (focus rfl)) | refine cod_ret ?_ | refine pst_then_ret ?_ | (apply run_osg 7; (focus rfl); (focus exact wt); (focus rfl); (focus (exact opr_call_ls (by rfl) (F1 ..) (by rfl) lpa)); (rintro _ _ ⟨rfl, rfl⟩)) | fail))
    exact pst_fin rfl (by exact resa) _ (⟨rfl, rfl⟩) (by exact hsa)
  · have F1 := press_any s h
    have W0 := within_ct k 513 (by decide) (by decide)
    have hwb := within.withinF_bd k 513 (by decide)
    obtain ⟨n, hn⟩ := Int.eq_ofNat_of_zero_le hwb.1
    rw [hn] at W0 hwb
    have Z1 := press_zero n (by omega)
    have P1 := put_ct s.length (by omega)
    have P2 := put_ct n (by omega)
    have l1 := put_len s.length
    have l2 := put_len n
    have hR := fun t => press_len (s := s) (t := t)
    generalize put.putB s.length = b1 at *
    generalize put.putB n = b2 at *
    (refine spec_enter Try.func5 Try.ntmps5 rfl rfl fun Fr => ?_; dsimp only [List.cons_append, List.nil_append, ini, Nat.reduceAdd])
    (repeat' (first | (apply run_qg 1; (focus rfl); (focus exact wt); (focus rfl); (focus (exact qg1))) | refine cod_seq ?_ | refine cod_region ?_ | refine run_nil ?_ | refine pst_then ?_ | fail))
    (refine run_os wt rfl (opr_call_l rfl (F1) rfl (by exact lpa)) ?_; rintro _ _ ⟨_, ⟨t, hF, rfl, rfl⟩, rfl⟩; try dsimp only [List.cons_append, List.nil_append])
    obtain ⟨ht0, htl⟩ := hR t hF
    have ht0 : (t == []) = false := by simpa using ht0
    (repeat' (first | (apply run_qg 1; (focus rfl); (focus exact wt); (focus rfl); (focus (exact qg1))) | (apply run_qg 4; (focus rfl); (focus exact wt); (focus rfl); (focus (first | exact qg4 | exact qs4))) | refine cod_seq ?_ | refine cod_region ?_ | refine run_nil ?_ | refine pst_then ?_ | (apply cod_cond_f; (focus rfl)) | refine cod_skip ?_ | (apply run_osg 7; (focus rfl); (focus exact wt); (focus rfl); (focus (exact opr_call_ls (by rfl) (W0 ..) (by rfl) lpa)); (rintro _ _ ⟨rfl, rfl⟩)) | fail))
    refine run_os wt rfl (opr_make (fY) ((0 : UInt8)) (c := n) rfl rfl rfl (by first | rfl | omega) (by first | rfl | omega) rfl rfl (by omega) (by (unfold maxLen); omega)) ?_
    rintro _ _ ⟨q1, rfl, rfl⟩
    have e1 : ((0 :: b2) == (0 :: b2)) = true := by simp
    (repeat' (first | (apply run_qg 1; (focus rfl); (focus exact wt); (focus rfl); (focus (exact qg1))) | (apply run_qg 4; (focus rfl); (focus exact wt); (focus rfl); (focus (first | exact qg4 | exact qs4))) | (apply run_qg 6; (focus rfl); (focus exact wt); (focus rfl); (focus (first | exact qs6 | exact qg6 | exact q_max rfl rfl rfl | exact q_sliceData rfl rfl (by omega) | exact q_sliceDataN rfl rfl | exact q_unsafeStringN rfl rfl rfl | exact q_cap_slice rfl rfl))) | (apply run_qg 11; (focus rfl); (focus exact wt); (focus rfl); (focus (exact qs11))) | refine cod_seq ?_ | refine cod_region ?_ | refine run_nil ?_ | refine pst_then ?_ | refine cod_ret ?_ | (apply run_osg 7; (focus rfl); (focus exact wt); (focus rfl); (focus (exact opr_call_ls (by rfl) (Z1 ..) (by rfl) lpa)); (rintro _ _ ⟨rfl, rfl⟩)) | (apply run_osg 7; (focus rfl); (focus exact wt); (focus rfl); (focus (exact opr_call_ls (by rfl) (P1 ..) (by rfl) lpa)); (rintro _ _ ⟨rfl, rfl⟩)) | (apply run_osg 7; (focus rfl); (focus exact wt); (focus rfl); (focus (exact opr_call_ls (by rfl) (P2 ..) (by rfl) lpa)); (rintro _ _ ⟨rfl, rfl⟩)) | fail))
    exact pst_fin rfl (by exact resa) _ (⟨rfl, rfl⟩) (by exact hsa)
theorem walk (s : ByteArray) (hs : s.size ≤ reachBytes) (k : Int) (wk : (Lit.int .i64 k).wf = true) (W : World) :
    Calls Try.prog 5 #[.string s, .int .i64 k] W fun e w' => e = .returned (.bool true) ∧ Below W.heap.size W w' := by
  obtain ⟨l, rfl, hl⟩ := str_of s
  have hr : reachBytes = 140737488351232 := rfl
  rw [hr, ← hl] at hs
  exact law_of_ct sh_nil (law_any l k hs)
end Go.Proofs.Ytppnaofebkpbkaa.lawPressShort
