/-
  press: the reader's number; press.Open of a text in the second form.
-/
import Derived.Test.YtkkgmgffkjeklaaSlStr3
import Derived.Test.YtkkgmgffkjeklaaTypes
import Derived.Test.YtkkgmgffkjeklaaGetPut
import Derived.Test.YtkkgmgffkjeklaaOpen2
namespace Go.Proofs.Ytkkgmgffkjeklaa.press
open Go.RowKit kit sl Go.Proofs.Ytkkgmgffkjeklaa.put Go.Proofs.Ytkkgmgffkjeklaa.get
set_option linter.unusedVariables false
theorem put_ct (n : Nat) (hn : n < 18446744073709551616) : Ct Try.prog 30 [.int .u64 (n : Int)] [] fun v H' => v = .string (str (putB n)) ∧ H' = [] :=
  ct_of_calls fun W _ => (put_any n hn W).mono fun e' w' ⟨h1, h2⟩ => ⟨by rw [h1], h2⟩
theorem get_ok {l : List UInt8} {n k : Nat} (h : l.length ≤ 1000000000000000) (e : getB l = (n, k, 0)) : Ct Try.prog 78 [.string (str l)] [] fun v H' => v = .tuple #[.int .u64 (n : Int), .int .i64 (k : Int), .int .i64 0] ∧ H' = [] :=
  ct_of_calls fun W _ => (get_any (str l) (by rw [str_size]; unfold maxLen; omega) W).mono fun e' w' ⟨h1, h2⟩ => ⟨by
    have h3 : getB (str l).data.toList = (n, k, 0) := e
    rw [h1, h3]; rfl, by rw [← h2]; exact Below.refl _ _⟩
theorem get_no {l : List UInt8} {m : Nat} (h : l.length ≤ 1000000000000000) (e : getB l = (0, 0, m)) : Ct Try.prog 78 [.string (str l)] [] fun v H' => v = .tuple #[.int .u64 0, .int .i64 0, .int .i64 (m : Int)] ∧ H' = [] :=
  ct_of_calls fun W _ => (get_any (str l) (by rw [str_size]; unfold maxLen; omega) W).mono fun e' w' ⟨h1, h2⟩ => ⟨by
    have h3 : getB (str l).data.toList = (0, 0, m) := e
    rw [h1, h3]; rfl, by rw [← h2]; exact Below.refl _ _⟩
attribute [local irreducible] box own sl old bptr eptr Qt Opr Run Cod Pst Drn
set_option maxRecDepth 100000 in
set_option maxHeartbeats 8000000 in
theorem num_ok (b : Nat) {l : List UInt8} {n k : Nat} (h : l.length ≤ 1000000000000000) (e : getB l = (n, k, 0)) (hk : k ≤ l.length) (hn : n ≤ 512) :
    Ct Try.prog 59 [bptr b 0, .int .u64 512] [box b [.string (str l), .bool false] 118] fun v H' => v = .int .i64 (n : Int) ∧ H' = [box b [.string (str (l.drop k)), .bool false] 118] := by
  have G0 := get_ok h e
  (refine spec_enter Try.func59 Try.ntmps59 rfl rfl fun Fr => ?_; dsimp only [List.cons_append, List.nil_append, ini, Nat.reduceAdd])
  (repeat' (first | (apply run_qg 1; (focus rfl); (focus exact wt); (focus rfl); (focus (exact qg1))) | (apply run_qg 2; (focus rfl); (focus exact wt); (focus rfl); (focus (first | exact qg2 | exact qs2))) | (apply run_qg 3; (focus rfl); (focus exact wt); (focus rfl); (focus (first | exact qg3 | exact qs3))) | (apply run_qg 4; (focus rfl); (focus exact wt); (focus rfl); (focus (first | exact qg4 | exact qs4))) | (apply run_qg 11; (focus rfl); (focus exact wt); (focus rfl); (focus (exact qs11))) | (apply run_qg 12; (focus rfl); (focus exact wt); (focus rfl); (focus (first | exact qs12 | exact q_cutp rfl rfl rfl rfl (by omega) (by omega) | exact q_slice_cap rfl rfl rfl rfl (by omega)))) | refine cod_seq ?_ | refine cod_region ?_ | refine run_nil ?_ | refine pst_then ?_ | (apply cod_cond_f; (focus rfl)) | refine cod_ret ?_ | refine cod_skip ?_ | (apply run_ong 9; (focus rfl); (focus exact wt); (focus (exact opr_store_box_one rfl rfl rfl rfl (by exact pka) rfl (by exact seta))); (rintro _ _ ⟨rfl, rfl⟩)) | (apply run_osg 7; (focus rfl); (focus exact wt); (focus rfl); (focus (exact opr_call_ls (by rfl) (G0 ..) (by rfl) lpa)); (rintro _ _ ⟨rfl, rfl⟩))))
  exact pst_fin rfl (by exact resa) _ (⟨rfl, rfl⟩) (by exact hsa)
set_option maxRecDepth 100000 in
set_option maxHeartbeats 8000000 in
theorem num_big (b : Nat) {l : List UInt8} {n k : Nat} (h : l.length ≤ 1000000000000000) (e : getB l = (n, k, 0)) (hn : 512 < n) :
    Ct Try.prog 59 [bptr b 0, .int .u64 512] [box b [.string (str l), .bool false] 118] fun v H' => v = .int .i64 0 ∧ H' = [box b [.string (str l), .bool true] 118] := by
  have G0 := get_ok h e
  (refine spec_enter Try.func59 Try.ntmps59 rfl rfl fun Fr => ?_; dsimp only [List.cons_append, List.nil_append, ini, Nat.reduceAdd])
  (repeat' (first | (apply run_qg 1; (focus rfl); (focus exact wt); (focus rfl); (focus (exact qg1))) | (apply run_qg 2; (focus rfl); (focus exact wt); (focus rfl); (focus (first | exact qg2 | exact qs2))) | (apply run_qg 3; (focus rfl); (focus exact wt); (focus rfl); (focus (first | exact qg3 | exact qs3))) | (apply run_qg 4; (focus rfl); (focus exact wt); (focus rfl); (focus (first | exact qg4 | exact qs4))) | refine cod_seq ?_ | refine cod_region ?_ | refine run_nil ?_ | refine pst_then ?_ | (apply cod_cond_t; (focus rfl)) | refine cod_ret ?_ | refine pst_then_ret ?_ | (apply run_ong 9; (focus rfl); (focus exact wt); (focus (exact opr_store_box_one rfl rfl rfl rfl (by exact pka) rfl (by exact seta))); (rintro _ _ ⟨rfl, rfl⟩)) | (apply run_osg 7; (focus rfl); (focus exact wt); (focus rfl); (focus (exact opr_call_ls (by rfl) (G0 ..) (by rfl) lpa)); (rintro _ _ ⟨rfl, rfl⟩))))
  exact pst_fin rfl (by exact resa) _ (⟨rfl, rfl⟩) (by exact hsa)
/-- what the second form says -/
def rawO (n : Nat) (r : List UInt8) : List UInt8 × Int := if n ≤ 512 ∧ r.length = n then (r, 0) else ([], 4)
set_option maxRecDepth 100000 in
set_option maxHeartbeats 8000000 in
theorem open_raw (l r : List UInt8) {n k : Nat} (h : l.length ≤ 1000000000000000) (e : getB l = (n, k, 0)) (hk : k ≤ l.length) (hr : l.drop k = r) :
    Ct Try.prog 31 [.string (str (1 :: l))] [] fun v H' => v = .tuple #[.string (str (rawO n r).1), .int .i64 (rawO n r).2] ∧ H' = [] := by
  have hl : (1 :: l).length = l.length + 1 := rfl
  have e0 : ((1 :: l) == []) = false := rfl
  have e1 : List.drop 1 (1 :: l) = l := rfl
  have e2 : (1 :: l)[0]? = some 1 := rfl
  have hu : UInt8.toNat 1 = 1 := rfl
  by_cases hn : n ≤ 512
  · have N0 := fun b => num_ok b h e hk hn
    rw [hr] at N0
    have hrl : r.length ≤ l.length := by rw [← hr, List.length_drop]; omega
    by_cases hrn : r.length = n
    · have ew : rawO n r = (r, 0) := by unfold rawO; rw [if_pos ⟨hn, hrn⟩]
      rw [ew]
      (refine spec_enter Try.func31 Try.ntmps31 rfl rfl fun Fr => ?_; dsimp only [List.cons_append, List.nil_append, ini, Nat.reduceAdd])
      (repeat' (first | (apply run_qg 1; (focus rfl); (focus exact wt); (focus rfl); (focus (exact qg1))) | (apply run_qg 4; (focus rfl); (focus exact wt); (focus rfl); (focus (first | exact qg4 | exact qs4))) | (apply run_qg 5; (focus rfl); (focus exact wt); (focus rfl); (focus (exact qg5))) | (apply run_qg 12; (focus rfl); (focus exact wt); (focus rfl); (focus (first | exact qs12 | exact q_cutp rfl rfl rfl rfl (by omega) (by omega) | exact q_slice_cap rfl rfl rfl rfl (by omega)))) | refine cod_seq ?_ | refine cod_region ?_ | refine run_nil ?_ | refine pst_then ?_ | (apply cod_cond_f; (focus rfl)) | refine cod_skip ?_ | (apply run_osg 8; (focus rfl); (focus exact wt); (focus rfl); (focus (exact opr_new rfl)); (rintro _ _ ⟨b, rfl, rfl⟩)) | (apply run_ong 9; (focus rfl); (focus exact wt); (focus (exact opr_store_box_agg rfl rfl rfl (by exact pka) rfl rfl rfl (by exact spla))); (rintro _ _ ⟨rfl, rfl⟩))))
      (refine run_os wt rfl (opr_call_l rfl (N0 _) rfl (by exact lpa)) ?_; rintro _ _ ⟨_, ⟨rfl, rfl⟩, rfl⟩; dsimp only [List.cons_append, List.nil_append])
      (repeat' (first | (apply run_qg 1; (focus rfl); (focus exact wt); (focus rfl); (focus (exact qg1))) | (apply run_qg 2; (focus rfl); (focus exact wt); (focus rfl); (focus (first | exact qg2 | exact qs2))) | (apply run_qg 3; (focus rfl); (focus exact wt); (focus rfl); (focus (first | exact qg3 | exact qs3))) | (apply run_qg 4; (focus rfl); (focus exact wt); (focus rfl); (focus (first | exact qg4 | exact qs4))) | (apply run_qg 6; (focus rfl); (focus exact wt); (focus rfl); (focus (first | exact qs6 | exact qg6 | exact q_max rfl rfl rfl | exact q_sliceData rfl rfl (by omega) | exact q_sliceDataN rfl rfl | exact q_unsafeStringN rfl rfl rfl | exact q_cap_slice rfl rfl))) | refine cod_seq ?_ | refine cod_region ?_ | refine run_nil ?_ | refine pst_then ?_ | (apply cod_cond_t; (focus rfl)) | (apply cod_cond_f; (focus rfl)) | refine cod_block ?_ | refine cod_ret ?_ | refine cod_skip ?_ | refine pst_block ?_))
      exact pst_fin rfl (by exact resa) _ (⟨rfl, rfl⟩) (by exact hsa)
    · have ew : rawO n r = ([], 4) := by unfold rawO; rw [if_neg (fun h => hrn h.2)]
      rw [ew]
      (refine spec_enter Try.func31 Try.ntmps31 rfl rfl fun Fr => ?_; dsimp only [List.cons_append, List.nil_append, ini, Nat.reduceAdd])
      (repeat' (first | (apply run_qg 1; (focus rfl); (focus exact wt); (focus rfl); (focus (exact qg1))) | (apply run_qg 4; (focus rfl); (focus exact wt); (focus rfl); (focus (first | exact qg4 | exact qs4))) | (apply run_qg 5; (focus rfl); (focus exact wt); (focus rfl); (focus (exact qg5))) | (apply run_qg 12; (focus rfl); (focus exact wt); (focus rfl); (focus (first | exact qs12 | exact q_cutp rfl rfl rfl rfl (by omega) (by omega) | exact q_slice_cap rfl rfl rfl rfl (by omega)))) | refine cod_seq ?_ | refine cod_region ?_ | refine run_nil ?_ | refine pst_then ?_ | (apply cod_cond_f; (focus rfl)) | refine cod_skip ?_ | (apply run_osg 8; (focus rfl); (focus exact wt); (focus rfl); (focus (exact opr_new rfl)); (rintro _ _ ⟨b, rfl, rfl⟩)) | (apply run_ong 9; (focus rfl); (focus exact wt); (focus (exact opr_store_box_agg rfl rfl rfl (by exact pka) rfl rfl rfl (by exact spla))); (rintro _ _ ⟨rfl, rfl⟩))))
      (refine run_os wt rfl (opr_call_l rfl (N0 _) rfl (by exact lpa)) ?_; rintro _ _ ⟨_, ⟨rfl, rfl⟩, rfl⟩; dsimp only [List.cons_append, List.nil_append])
      (repeat' (first | (apply run_qg 1; (focus rfl); (focus exact wt); (focus rfl); (focus (exact qg1))) | (apply run_qg 2; (focus rfl); (focus exact wt); (focus rfl); (focus (first | exact qg2 | exact qs2))) | (apply run_qg 3; (focus rfl); (focus exact wt); (focus rfl); (focus (first | exact qg3 | exact qs3))) | (apply run_qg 4; (focus rfl); (focus exact wt); (focus rfl); (focus (first | exact qg4 | exact qs4))) | (apply run_qg 6; (focus rfl); (focus exact wt); (focus rfl); (focus (first | exact qs6 | exact qg6 | exact q_max rfl rfl rfl | exact q_sliceData rfl rfl (by omega) | exact q_sliceDataN rfl rfl | exact q_unsafeStringN rfl rfl rfl | exact q_cap_slice rfl rfl))) | refine cod_seq ?_ | refine cod_region ?_ | refine run_nil ?_ | refine pst_then ?_ | (apply cod_cond_t; (focus rfl)) | (apply cod_cond_f; (focus rfl)) | refine cod_block ?_ | refine cod_ret ?_ | refine pst_then_ret ?_ | refine pst_block ?_))
      exact pst_fin rfl (by exact resa) _ (⟨rfl, rfl⟩) (by exact hsa)
  · have ew : rawO n r = ([], 4) := by unfold rawO; rw [if_neg (fun h => hn h.1)]
    rw [ew]
    have N0 := fun b => num_big b h e (by omega)
    (refine spec_enter Try.func31 Try.ntmps31 rfl rfl fun Fr => ?_; dsimp only [List.cons_append, List.nil_append, ini, Nat.reduceAdd])
    (repeat' (first | (apply run_qg 1; (focus rfl); (focus exact wt); (focus rfl); (focus (exact qg1))) | (apply run_qg 4; (focus rfl); (focus exact wt); (focus rfl); (focus (first | exact qg4 | exact qs4))) | (apply run_qg 5; (focus rfl); (focus exact wt); (focus rfl); (focus (exact qg5))) | (apply run_qg 12; (focus rfl); (focus exact wt); (focus rfl); (focus (first | exact qs12 | exact q_cutp rfl rfl rfl rfl (by omega) (by omega) | exact q_slice_cap rfl rfl rfl rfl (by omega)))) | refine cod_seq ?_ | refine cod_region ?_ | refine run_nil ?_ | refine pst_then ?_ | (apply cod_cond_f; (focus rfl)) | refine cod_skip ?_ | (apply run_osg 8; (focus rfl); (focus exact wt); (focus rfl); (focus (exact opr_new rfl)); (rintro _ _ ⟨b, rfl, rfl⟩)) | (apply run_ong 9; (focus rfl); (focus exact wt); (focus (exact opr_store_box_agg rfl rfl rfl (by exact pka) rfl rfl rfl (by exact spla))); (rintro _ _ ⟨rfl, rfl⟩))))
    (refine run_os wt rfl (opr_call_l rfl (N0 _) rfl (by exact lpa)) ?_; rintro _ _ ⟨_, ⟨rfl, rfl⟩, rfl⟩; dsimp only [List.cons_append, List.nil_append])
    (repeat' (first | (apply run_qg 1; (focus rfl); (focus exact wt); (focus rfl); (focus (exact qg1))) | (apply run_qg 2; (focus rfl); (focus exact wt); (focus rfl); (focus (first | exact qg2 | exact qs2))) | (apply run_qg 3; (focus rfl); (focus exact wt); (focus rfl); (focus (first | exact qg3 | exact qs3))) | refine cod_seq ?_ | refine cod_region ?_ | refine run_nil ?_ | refine pst_then ?_ | (apply cod_cond_t; (focus rfl)) | refine cod_block ?_ | refine cod_ret ?_ | refine cod_skip ?_ | refine pst_then_ret ?_ | refine pst_block ?_ | (apply run_offs; (focus rfl); (focus rfl); (focus rfl))))
    exact pst_fin rfl (by exact resa) _ (⟨rfl, rfl⟩) (by exact hsa)
end Go.Proofs.Ytkkgmgffkjeklaa.press
