/-
  PressRaw: the walk.
-/
import Derived.Test.YtkkgmgffkjeklaaPressRaw
namespace Go.Proofs.Ytkkgmgffkjeklaa.lawPressRaw
open Go.RowKit kit sl Go.Proofs.Ytkkgmgffkjeklaa.put Go.Proofs.Ytkkgmgffkjeklaa.get Go.Proofs.Ytkkgmgffkjeklaa.press
set_option linter.unusedVariables false
attribute [local irreducible] box own sl old bptr eptr Qt Opr Run Cod Pst Drn
set_option maxRecDepth 100000 in
set_option maxHeartbeats 8000000 in
theorem law_any (s more : List UInt8) (hs : s.length ≤ 140737488351232) (hm : more.length ≤ 140737488351232) :
    Ct Try.prog 9 [.string (str s), .string (str more)] [] fun v H' => v = .bool true ∧ H' = [] := by
  obtain ⟨p, hp⟩ : ∃ p, putB s.length = p := ⟨_, rfl⟩
  have P0 := put_ct s.length (by omega)
  have g1 := getB_put s.length s (by omega)
  have g2 := getB_put s.length (s ++ more) (by omega)
  have hpl := putF_len 10 s.length
  rw [show putF 10 s.length = putB s.length from rfl] at hpl
  rw [hp] at P0 g1 g2 hpl
  have O1 := open_raw (p ++ s) s (by rw [List.length_append]; omega) g1 (by rw [List.length_append]; omega) (by simp)
  have O2 := open_raw (p ++ (s ++ more)) (s ++ more) (by simp only [List.length_append]; omega) g2 (by rw [List.length_append]; omega) (by simp)
  have ea : 1 :: (p ++ s) ++ more = 1 :: (p ++ (s ++ more)) := by simp
  have e1 : [1] ++ p ++ s = 1 :: (p ++ s) := rfl
  rw [← ea] at O2
  rw [← e1] at O1 O2
  by_cases h : 512 < s.length
  · have w1 : rawO s.length s = ([], 4) := by unfold rawO; rw [if_neg (by omega)]
    rw [w1] at O1
    have ee : (([] : List UInt8) == []) = true := rfl
    (refine spec_enter Try.func9 Try.ntmps9 rfl rfl fun Fr => ?_; dsimp only [List.cons_append, List.nil_append, ini, Nat.reduceAdd])
    (repeat' (first | (apply run_qg 1; (focus rfl); (focus exact wt); (focus rfl); (focus (exact qg1))) | (apply run_qg 4; (focus rfl); (focus exact wt); (focus rfl); (focus (first | exact qg4 | exact qs4))) | (apply run_qg 6; (focus rfl); (focus exact wt); (focus rfl); (focus (first | exact qs6 | exact qg6 | exact q_max rfl rfl rfl | exact q_sliceData rfl rfl (by omega) | exact q_sliceDataN rfl rfl | exact q_unsafeStringN rfl rfl rfl | exact q_cap_slice rfl rfl))) | (apply run_qg 11; (focus rfl); (focus exact wt); (focus rfl); (focus (exact qs11))) | refine cod_seq ?_ | refine cod_region ?_ | refine run_nil ?_ | refine pst_then ?_ | (apply cod_cond_t; (focus rfl)) | refine cod_ret ?_ | refine pst_then_ret ?_ | (apply run_osg 7; (focus rfl); (focus exact wt); (focus rfl); (focus (exact opr_call_ls (by rfl) (P0 ..) (by rfl) lpa)); (rintro _ _ ⟨rfl, rfl⟩)) | (apply run_osg 7; (focus rfl); (focus exact wt); (focus rfl); (focus (exact opr_call_ls (by rfl) (O1 ..) (by rfl) lpa)); (rintro _ _ ⟨rfl, rfl⟩))))
    exact pst_fin rfl (by exact resa) _ (⟨rfl, rfl⟩) (by exact hsa)
  · have w1 : rawO s.length s = (s, 0) := by unfold rawO; rw [if_pos ⟨by omega, rfl⟩]
    rw [w1] at O1
    have ee : (s == s) = true := by simp
    by_cases hmo : more = []
    · have em : (more == []) = true := by rw [hmo]; rfl
      have w2 : rawO s.length (s ++ more) = (s ++ more, 0) := by unfold rawO; rw [if_pos ⟨by omega, by rw [hmo]; simp⟩]
      rw [w2] at O2
      (refine spec_enter Try.func9 Try.ntmps9 rfl rfl fun Fr => ?_; dsimp only [List.cons_append, List.nil_append, ini, Nat.reduceAdd])
      (repeat' (first | (apply run_qg 1; (focus rfl); (focus exact wt); (focus rfl); (focus (exact qg1))) | (apply run_qg 4; (focus rfl); (focus exact wt); (focus rfl); (focus (first | exact qg4 | exact qs4))) | (apply run_qg 6; (focus rfl); (focus exact wt); (focus rfl); (focus (first | exact qs6 | exact qg6 | exact q_max rfl rfl rfl | exact q_sliceData rfl rfl (by omega) | exact q_sliceDataN rfl rfl | exact q_unsafeStringN rfl rfl rfl | exact q_cap_slice rfl rfl))) | (apply run_qg 11; (focus rfl); (focus exact wt); (focus rfl); (focus (exact qs11))) | refine cod_seq ?_ | refine cod_region ?_ | refine run_nil ?_ | refine pst_then ?_ | (apply cod_cond_f; (focus rfl)) | refine cod_ret ?_ | refine cod_skip ?_ | (apply run_osg 7; (focus rfl); (focus exact wt); (focus rfl); (focus (exact opr_call_ls (by rfl) (P0 ..) (by rfl) lpa)); (rintro _ _ ⟨rfl, rfl⟩)) | (apply run_osg 7; (focus rfl); (focus exact wt); (focus rfl); (focus (exact opr_call_ls (by rfl) (O1 ..) (by rfl) lpa)); (rintro _ _ ⟨rfl, rfl⟩)) | (apply run_osg 7; (focus rfl); (focus exact wt); (focus rfl); (focus (exact opr_call_ls (by rfl) (O2 ..) (by rfl) lpa)); (rintro _ _ ⟨rfl, rfl⟩))))
      exact pst_fin rfl (by exact resa) _ (⟨rfl, rfl⟩) (by exact hsa)
    · have em : (more == []) = false := by simpa using hmo
      have hpos := List.length_pos_iff.2 hmo
      have w2 : rawO s.length (s ++ more) = ([], 4) := by unfold rawO; rw [if_neg (by rw [List.length_append]; omega)]
      rw [w2] at O2
      (refine spec_enter Try.func9 Try.ntmps9 rfl rfl fun Fr => ?_; dsimp only [List.cons_append, List.nil_append, ini, Nat.reduceAdd])
      (repeat' (first | (apply run_qg 1; (focus rfl); (focus exact wt); (focus rfl); (focus (exact qg1))) | (apply run_qg 4; (focus rfl); (focus exact wt); (focus rfl); (focus (first | exact qg4 | exact qs4))) | (apply run_qg 6; (focus rfl); (focus exact wt); (focus rfl); (focus (first | exact qs6 | exact qg6 | exact q_max rfl rfl rfl | exact q_sliceData rfl rfl (by omega) | exact q_sliceDataN rfl rfl | exact q_unsafeStringN rfl rfl rfl | exact q_cap_slice rfl rfl))) | (apply run_qg 11; (focus rfl); (focus exact wt); (focus rfl); (focus (exact qs11))) | refine cod_seq ?_ | refine cod_region ?_ | refine run_nil ?_ | refine pst_then ?_ | (apply cod_cond_f; (focus rfl)) | refine cod_ret ?_ | refine cod_skip ?_ | (apply run_osg 7; (focus rfl); (focus exact wt); (focus rfl); (focus (exact opr_call_ls (by rfl) (P0 ..) (by rfl) lpa)); (rintro _ _ ⟨rfl, rfl⟩)) | (apply run_osg 7; (focus rfl); (focus exact wt); (focus rfl); (focus (exact opr_call_ls (by rfl) (O1 ..) (by rfl) lpa)); (rintro _ _ ⟨rfl, rfl⟩)) | (apply run_osg 7; (focus rfl); (focus exact wt); (focus rfl); (focus (exact opr_call_ls (by rfl) (O2 ..) (by rfl) lpa)); (rintro _ _ ⟨rfl, rfl⟩))))
      exact pst_fin rfl (by exact resa) _ (⟨rfl, rfl⟩) (by exact hsa)
theorem walk (s : ByteArray) (hs : s.size ≤ reachBytes) (t : ByteArray) (ht : t.size ≤ reachBytes) (W : World) :
    Calls Try.prog 9 #[.string s, .string t] W fun e w' => e = .returned (.bool true) ∧ Below W.heap.size W w' := by
  obtain ⟨l, rfl, hl⟩ := str_of s
  obtain ⟨x, rfl, hx⟩ := str_of t
  have hr : reachBytes = 140737488351232 := rfl
  exact law_of_ct sh_nil (law_any l x (by omega) (by omega))
end Go.Proofs.Ytkkgmgffkjeklaa.lawPressRaw
