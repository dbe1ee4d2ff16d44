/-
  ScanOrder: the walk, no cell (printed by gen_scanorder.py).
-/
import Derived.Test.YtkkgmgffkjeklaaScanOrderH
namespace Go.Proofs.Ytkkgmgffkjeklaa.lawScanOrder
open Go.RowKit kit sl Go.Proofs.Ytkkgmgffkjeklaa.use Go.Proofs.Ytkkgmgffkjeklaa.blob Go.Proofs.Ytkkgmgffkjeklaa.seal Go.Proofs.Ytkkgmgffkjeklaa.disk Go.Proofs.Ytkkgmgffkjeklaa.within
set_option linter.unusedVariables false
attribute [local irreducible] box own sl old bptr eptr Qt Opr Run Cod Pst Drn
set_option maxRecDepth 100000 in
set_option maxHeartbeats 8000000 in
theorem zero_neg (qa qb : Option Addr) (ca cb : Nat) (bs : List Bool) (after turn : Int) (hW : -9223372036854775808 ≤ after ∧ after ≤ 9223372036854775807) (hbs : bs.length ≤ 1000000000000000) (hA : after < 0) :
    Ct Try.prog 6 [.slice qa 0 ca, .slice qb bs.length cb, .int .i64 after, .int .i64 turn] [sl 1 (.slice qa 0 ca) (([] : List LB).map rowB), many 4 (([] : List LB).map lotB), sl 1 (.slice qb bs.length cb) (bs.map fB)] fun v H' => v = .bool true ∧ H' = [] := by
  have RZ := fun q c => run_zero q c (A := 0) (by omega)
  have hn : min ((0 : Nat) : Int) 100 = 0 := by decide
  (refine spec_enter Try.func6 Try.ntmps6 rfl rfl fun Fr => ?_; dsimp only [List.cons_append, List.nil_append, ini, Nat.reduceAdd])
  (repeat' (first | (apply run_qg 1; (focus rfl); (focus exact wt); (focus rfl); (focus (exact qg1))) | (apply run_qg 4; (focus rfl); (focus exact wt); (focus rfl); (focus (first | exact qg4 | exact qs4))) | (apply run_qg 6; (focus rfl); (focus exact wt); (focus rfl); (focus (first | exact qs6 | exact qg6 | exact q_max rfl rfl rfl | exact q_sliceData rfl rfl (by omega) | exact q_sliceDataN rfl rfl | exact q_unsafeStringN rfl rfl rfl | exact q_cap_slice rfl rfl))) | refine cod_seq ?_ | refine cod_region ?_ | refine run_nil ?_ | refine pst_then ?_ | (apply cod_cond_t; (focus rfl)) | (apply run_offs; (focus rfl); (focus rfl); (focus rfl))))
  rw [hn]
  refine run_os wt rfl (opr_make (fS) (str []) (c := 2) rfl rfl rfl (by first | rfl | omega) (by first | rfl | omega) rfl rfl (by omega) (by (unfold maxLen); omega)) ?_
  rintro _ _ ⟨q1, rfl, rfl⟩
  (repeat' (first | (apply run_qg 1; (focus rfl); (focus exact wt); (focus rfl); (focus (exact qg1))) | refine cod_seq ?_ | refine cod_region ?_ | refine run_nil ?_ | refine pst_then ?_ | refine cod_block ?_))
  (refine cod_loop_ro (σ := Unit) (fun _ => True) (fun _ => [(36, .int .i64 0)]) (fun _ => 0) (()) (by trivial) (by exact fsa) (fun x hx => ?_); dsimp only [List.cons_append, List.nil_append])
  (repeat' (first | (apply run_qg 1; (focus rfl); (focus exact wt); (focus rfl); (focus (exact qg1))) | (apply run_qg 4; (focus rfl); (focus exact wt); (focus rfl); (focus (first | exact qg4 | exact qs4))) | (apply run_qg 5; (focus rfl); (focus exact wt); (focus rfl); (focus (exact qg5))) | refine cod_seq ?_ | refine cod_region ?_ | refine run_nil ?_ | refine pst_then ?_ | (apply cod_cond_f; (focus rfl)) | refine cod_exit ?_ | refine pst_block_here ?_ | refine pst_then_exit ?_))
  (refine run_os wt rfl (opr_call_l rfl (RZ _ _) rfl (by exact lpa)) ?_; rintro _ _ ⟨_, ⟨tab, outs, q, c, rfl, rfl⟩, rfl⟩; dsimp only [List.cons_append, List.nil_append])
  (repeat' (first | (apply run_qg 1; (focus rfl); (focus exact wt); (focus rfl); (focus (exact qg1))) | (apply run_qg 4; (focus rfl); (focus exact wt); (focus rfl); (focus (first | exact qg4 | exact qs4))) | refine cod_seq ?_ | refine cod_region ?_ | refine run_nil ?_ | refine pst_then ?_))
  refine run_qs wt rfl (q_slice_cap (m := 0) rfl rfl rfl rfl (by omega)) ?_
  skip
  have EQ := equalF_any q none 0 0 0 [] [] [] [] rfl rfl (by decide) (fun k r s h => by cases h) (fun r hr => absurd hr List.not_mem_nil) (fun r hr => absurd hr List.not_mem_nil) (fun r hr => absurd hr List.not_mem_nil)
  refine run_os wt rfl (opr_call_ls rfl EQ rfl (Lp.view (sl_excl _ _ _) (Lp.view (sl_excl _ _ _) (Lp.view rfl (Lp.view rfl Lp.nil (view_none _ _)) (view_none _ _)) (View.emp rfl)) (view_cut (ys := outs) (f := fEn) (k := 0) pka (fun _ => rfl) rfl (by omega)))) ?_
  rintro _ _ ⟨rfl, rfl⟩
  (repeat' (first | (apply run_qg 1; (focus rfl); (focus exact wt); (focus rfl); (focus (exact qg1))) | refine run_nil ?_ | refine pst_then ?_ | refine cod_ret ?_))
  exact pst_fin rfl (by exact resa) _ (⟨rfl, rfl⟩) (by exact hsa)
set_option maxRecDepth 100000 in
set_option maxHeartbeats 8000000 in
theorem zero_big (qa qb : Option Addr) (ca cb : Nat) (bs : List Bool) (after turn : Int) (hW : -9223372036854775808 ≤ after ∧ after ≤ 9223372036854775807) (hbs : bs.length ≤ 1000000000000000) (hA : 0 ≤ after ∧ 2147483647 < after) :
    Ct Try.prog 6 [.slice qa 0 ca, .slice qb bs.length cb, .int .i64 after, .int .i64 turn] [sl 1 (.slice qa 0 ca) (([] : List LB).map rowB), many 4 (([] : List LB).map lotB), sl 1 (.slice qb bs.length cb) (bs.map fB)] fun v H' => v = .bool true ∧ H' = [] := by
  have RZ := fun q c => run_zero q c (A := 0) (by omega)
  have hn : min ((0 : Nat) : Int) 100 = 0 := by decide
  (refine spec_enter Try.func6 Try.ntmps6 rfl rfl fun Fr => ?_; dsimp only [List.cons_append, List.nil_append, ini, Nat.reduceAdd])
  (repeat' (first | (apply run_qg 1; (focus rfl); (focus exact wt); (focus rfl); (focus (exact qg1))) | (apply run_qg 4; (focus rfl); (focus exact wt); (focus rfl); (focus (first | exact qg4 | exact qs4))) | (apply run_qg 6; (focus rfl); (focus exact wt); (focus rfl); (focus (first | exact qs6 | exact qg6 | exact q_max rfl rfl rfl | exact q_sliceData rfl rfl (by omega) | exact q_sliceDataN rfl rfl | exact q_unsafeStringN rfl rfl rfl | exact q_cap_slice rfl rfl))) | refine cod_seq ?_ | refine cod_region ?_ | refine run_nil ?_ | refine pst_then ?_ | (apply cod_cond_t; (focus rfl))))
  rw [hn]
  refine run_os wt rfl (opr_make (fS) (str []) (c := 2) rfl rfl rfl (by first | rfl | omega) (by first | rfl | omega) rfl rfl (by omega) (by (unfold maxLen); omega)) ?_
  rintro _ _ ⟨q1, rfl, rfl⟩
  (repeat' (first | (apply run_qg 1; (focus rfl); (focus exact wt); (focus rfl); (focus (exact qg1))) | refine cod_seq ?_ | refine cod_region ?_ | refine run_nil ?_ | refine pst_then ?_ | refine cod_block ?_))
  (refine cod_loop_ro (σ := Unit) (fun _ => True) (fun _ => [(36, .int .i64 0)]) (fun _ => 0) (()) (by trivial) (by exact fsa) (fun x hx => ?_); dsimp only [List.cons_append, List.nil_append])
  (repeat' (first | (apply run_qg 1; (focus rfl); (focus exact wt); (focus rfl); (focus (exact qg1))) | (apply run_qg 4; (focus rfl); (focus exact wt); (focus rfl); (focus (first | exact qg4 | exact qs4))) | (apply run_qg 5; (focus rfl); (focus exact wt); (focus rfl); (focus (exact qg5))) | refine cod_seq ?_ | refine cod_region ?_ | refine run_nil ?_ | refine pst_then ?_ | (apply cod_cond_f; (focus rfl)) | refine cod_exit ?_ | refine pst_block_here ?_ | refine pst_then_exit ?_))
  (refine run_os wt rfl (opr_call_l rfl (RZ _ _) rfl (by exact lpa)) ?_; rintro _ _ ⟨_, ⟨tab, outs, q, c, rfl, rfl⟩, rfl⟩; dsimp only [List.cons_append, List.nil_append])
  (repeat' (first | (apply run_qg 1; (focus rfl); (focus exact wt); (focus rfl); (focus (exact qg1))) | (apply run_qg 4; (focus rfl); (focus exact wt); (focus rfl); (focus (first | exact qg4 | exact qs4))) | refine cod_seq ?_ | refine cod_region ?_ | refine run_nil ?_ | refine pst_then ?_))
  refine run_qs wt rfl (q_slice_cap (m := 0) rfl rfl rfl rfl (by omega)) ?_
  skip
  have EQ := equalF_any q none 0 0 0 [] [] [] [] rfl rfl (by decide) (fun k r s h => by cases h) (fun r hr => absurd hr List.not_mem_nil) (fun r hr => absurd hr List.not_mem_nil) (fun r hr => absurd hr List.not_mem_nil)
  refine run_os wt rfl (opr_call_ls rfl EQ rfl (Lp.view (sl_excl _ _ _) (Lp.view (sl_excl _ _ _) (Lp.view rfl (Lp.view rfl Lp.nil (view_none _ _)) (view_none _ _)) (View.emp rfl)) (view_cut (ys := outs) (f := fEn) (k := 0) pka (fun _ => rfl) rfl (by omega)))) ?_
  rintro _ _ ⟨rfl, rfl⟩
  (repeat' (first | (apply run_qg 1; (focus rfl); (focus exact wt); (focus rfl); (focus (exact qg1))) | refine run_nil ?_ | refine pst_then ?_ | refine cod_ret ?_))
  exact pst_fin rfl (by exact resa) _ (⟨rfl, rfl⟩) (by exact hsa)
set_option maxRecDepth 100000 in
set_option maxHeartbeats 8000000 in
theorem zero_in (qa qb : Option Addr) (ca cb : Nat) (bs : List Bool) (after turn : Int) (hW : -9223372036854775808 ≤ after ∧ after ≤ 9223372036854775807) (hbs : bs.length ≤ 1000000000000000) (hA : 0 ≤ after ∧ after ≤ 2147483647) :
    Ct Try.prog 6 [.slice qa 0 ca, .slice qb bs.length cb, .int .i64 after, .int .i64 turn] [sl 1 (.slice qa 0 ca) (([] : List LB).map rowB), many 4 (([] : List LB).map lotB), sl 1 (.slice qb bs.length cb) (bs.map fB)] fun v H' => v = .bool true ∧ H' = [] := by
  have RZ := fun q c => run_zero q c (A := after) (by omega)
  have hn : min ((0 : Nat) : Int) 100 = 0 := by decide
  (refine spec_enter Try.func6 Try.ntmps6 rfl rfl fun Fr => ?_; dsimp only [List.cons_append, List.nil_append, ini, Nat.reduceAdd])
  (repeat' (first | (apply run_qg 1; (focus rfl); (focus exact wt); (focus rfl); (focus (exact qg1))) | (apply run_qg 4; (focus rfl); (focus exact wt); (focus rfl); (focus (first | exact qg4 | exact qs4))) | (apply run_qg 6; (focus rfl); (focus exact wt); (focus rfl); (focus (first | exact qs6 | exact qg6 | exact q_max rfl rfl rfl | exact q_sliceData rfl rfl (by omega) | exact q_sliceDataN rfl rfl | exact q_unsafeStringN rfl rfl rfl | exact q_cap_slice rfl rfl))) | refine cod_seq ?_ | refine cod_region ?_ | refine run_nil ?_ | refine pst_then ?_ | (apply cod_cond_f; (focus rfl)) | refine cod_skip ?_))
  rw [hn]
  refine run_os wt rfl (opr_make (fS) (str []) (c := 2) rfl rfl rfl (by first | rfl | omega) (by first | rfl | omega) rfl rfl (by omega) (by (unfold maxLen); omega)) ?_
  rintro _ _ ⟨q1, rfl, rfl⟩
  (repeat' (first | (apply run_qg 1; (focus rfl); (focus exact wt); (focus rfl); (focus (exact qg1))) | refine cod_seq ?_ | refine cod_region ?_ | refine run_nil ?_ | refine pst_then ?_ | refine cod_block ?_))
  (refine cod_loop_ro (σ := Unit) (fun _ => True) (fun _ => [(36, .int .i64 0)]) (fun _ => 0) (()) (by trivial) (by exact fsa) (fun x hx => ?_); dsimp only [List.cons_append, List.nil_append])
  (repeat' (first | (apply run_qg 1; (focus rfl); (focus exact wt); (focus rfl); (focus (exact qg1))) | (apply run_qg 4; (focus rfl); (focus exact wt); (focus rfl); (focus (first | exact qg4 | exact qs4))) | (apply run_qg 5; (focus rfl); (focus exact wt); (focus rfl); (focus (exact qg5))) | refine cod_seq ?_ | refine cod_region ?_ | refine run_nil ?_ | refine pst_then ?_ | (apply cod_cond_f; (focus rfl)) | refine cod_exit ?_ | refine pst_block_here ?_ | refine pst_then_exit ?_))
  (refine run_os wt rfl (opr_call_l rfl (RZ _ _) rfl (by exact lpa)) ?_; rintro _ _ ⟨_, ⟨tab, outs, q, c, rfl, rfl⟩, rfl⟩; dsimp only [List.cons_append, List.nil_append])
  (repeat' (first | (apply run_qg 1; (focus rfl); (focus exact wt); (focus rfl); (focus (exact qg1))) | (apply run_qg 4; (focus rfl); (focus exact wt); (focus rfl); (focus (first | exact qg4 | exact qs4))) | refine cod_seq ?_ | refine cod_region ?_ | refine run_nil ?_ | refine pst_then ?_))
  refine run_qs wt rfl (q_slice_cap (m := 0) rfl rfl rfl rfl (by omega)) ?_
  skip
  have EQ := equalF_any q none 0 0 0 [] [] [] [] rfl rfl (by decide) (fun k r s h => by cases h) (fun r hr => absurd hr List.not_mem_nil) (fun r hr => absurd hr List.not_mem_nil) (fun r hr => absurd hr List.not_mem_nil)
  refine run_os wt rfl (opr_call_ls rfl EQ rfl (Lp.view (sl_excl _ _ _) (Lp.view (sl_excl _ _ _) (Lp.view rfl (Lp.view rfl Lp.nil (view_none _ _)) (view_none _ _)) (View.emp rfl)) (view_cut (ys := outs) (f := fEn) (k := 0) pka (fun _ => rfl) rfl (by omega)))) ?_
  rintro _ _ ⟨rfl, rfl⟩
  (repeat' (first | (apply run_qg 1; (focus rfl); (focus exact wt); (focus rfl); (focus (exact qg1))) | refine run_nil ?_ | refine pst_then ?_ | refine cod_ret ?_))
  exact pst_fin rfl (by exact resa) _ (⟨rfl, rfl⟩) (by exact hsa)
end Go.Proofs.Ytkkgmgffkjeklaa.lawScanOrder
