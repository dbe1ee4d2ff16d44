/-
  roomy, filled, spoil, slices.Clone over entries of a directory: the walks.
-/
import Derived.Test.YtknclflgghnojaaSlOwn
import Derived.Test.YtknclflgghnojaaDir
namespace Go.Proofs.Ytknclflgghnojaa.own
open Go.RowKit kit sl Go.Proofs.Ytknclflgghnojaa.dir
set_option linter.unusedVariables false
attribute [local irreducible] box own sl old bptr eptr Qt Opr Run Cod Pst Drn
set_option maxRecDepth 100000 in
set_option maxHeartbeats 8000000 in
theorem roomy_E (q : Option Addr) (c : Nat) (xs : List (DEnt)) (x : DEnt) (hn : (xs.length + 3) * 24 ≤ 140737488355328) :
    Ct Try.prog 43 [.slice q xs.length c, .agg #[.string (str x.1), .int .i64 x.2]] [sl 2 (.slice q xs.length c) (xs.map fE)] fun v H' => ∃ g, v = .slice (some ⟨g, 0, none⟩) xs.length (xs.length + 3) ∧ H' = [own (.slice (some ⟨g, 0, none⟩) (xs.length + 3) (xs.length + 3)) 62 2 (xs.length + 3) (flat fE (xs ++ [x, x, x]))] := by
  (refine spec_enter Try.func43 Try.ntmps43 rfl rfl fun Fr => ?_; dsimp only [List.cons_append, List.nil_append, ini, Nat.reduceAdd])
  (repeat' (first | (apply run_qg 1; (focus rfl); (focus exact wt); (focus rfl); (focus (exact qg1))) | (apply run_qg 4; (focus rfl); (focus exact wt); (focus rfl); (focus (first | exact qg4 | exact qs4))) | (apply run_qg 6; (focus rfl); (focus exact wt); (focus rfl); (focus (first | exact qs6 | exact qg6 | exact q_max rfl rfl rfl | exact q_sliceData rfl rfl (by omega) | exact q_sliceDataN rfl rfl | exact q_unsafeStringN rfl rfl rfl | exact q_cap_slice rfl rfl))) | refine cod_seq ?_ | refine cod_region ?_ | refine run_nil ?_ | refine pst_then ?_ | (apply run_osg 8; (focus rfl); (focus exact wt); (focus rfl); (focus (exact opr_box_agg rfl rfl)); (rintro _ _ ⟨b, rfl, rfl⟩))))
  (refine run_os wt rfl (opr_make_room (fE) (([], 0)) (c := xs.length + 3) rfl rfl rfl rfl rfl rfl (by omega) (by (unfold maxLen); omega)) ?_; rintro _ _ ⟨g, rfl, rfl⟩)
  (repeat' (first | (apply run_qg 1; (focus rfl); (focus exact wt); (focus rfl); (focus (exact qg1)))))
  (refine run_os wt rfl (opr_append_room (f := fE) (ws := []) (zs := List.replicate (xs.length + 3) ([], 0)) (ys := xs) rfl rfl rfl pka pka (by intro _; rfl) (by (first | exact one_fS | exact one_fI | exact one_fB | exact one_fP | exact one_fIIS | exact one_fIIIS | exact one_fII | exact one_fSI | exact one_fIIU | exact one_fY | exact one_fBl | exact one_fT | exact one_fE | assumption)) rfl rfl (by simp) (by simp)) ?_; rintro _ _ ⟨rfl, rfl⟩)
  rw [Nat.zero_add, List.nil_append]
  (repeat' (first | (apply run_qg 1; (focus rfl); (focus exact wt); (focus rfl); (focus (exact qg1))) | refine cod_seq ?_ | refine cod_region ?_ | refine run_nil ?_ | refine pst_then ?_ | refine cod_block ?_))
  (refine cod_loop_rw (σ := Nat × List (DEnt)) (fun s => s.1 ≤ 3 ∧ s.2.length = xs.length + 3 ∧ s.2.take (xs.length + s.1) = xs ++ List.replicate s.1 x) (fun s => [(13, .int .i64 (s.1 : Int))]) (fun s => [own (.slice (some ⟨g, 0, none⟩) (xs.length + 3) (xs.length + 3)) 62 2 (xs.length + 3) (flat fE s.2)]) _ (fun s => 3 - s.1) ((0, xs ++ (List.replicate (xs.length + 3) ([], 0)).drop xs.length)) (by exact ⟨by omega, by simp, by simp⟩) (by exact fsa) (by (first | exact HSub.of_picks_rest (by exact pca))) (fun ⟨k, Y⟩ ⟨hk, hY, hT⟩ => ?_); dsimp only [List.cons_append, List.nil_append])
  dsimp only at hk hY hT
  by_cases hlt : k < 3
  · obtain ⟨y0, hy0⟩ : ∃ y0, Y[xs.length + k]? = some y0 := ⟨_, List.getElem?_eq_getElem (by omega)⟩
    (repeat' (first | (apply run_qg 1; (focus rfl); (focus exact wt); (focus rfl); (focus (exact qg1))) | (apply run_qg 4; (focus rfl); (focus exact wt); (focus rfl); (focus (first | exact qg4 | exact qs4))) | refine cod_seq ?_ | refine cod_region ?_ | refine run_nil ?_ | refine pst_then ?_ | (apply cod_cond_t; (focus rfl)) | refine cod_block ?_ | refine cod_skip ?_))
    (try (refine cod_drawn_ks (Hq := [_]) [1] [] rfl (by kernel_rfl) (by simp only [List.length_cons, List.length_nil, Nat.reduceAdd]; rfl) ?_))
    (try (repeat' (first | (apply drnK_take 1; (focus rfl); (focus rfl); (focus exact wt); (focus (decide +kernel)); (focus exact hsq); (focus rfl); (focus (exact qg1))) | (apply drnK_take 2; (focus rfl); (focus rfl); (focus exact wt); (focus (decide +kernel)); (focus exact hsq); (focus rfl); (focus (first | exact qg2 | exact qs2))) | (apply drnK_take 4; (focus rfl); (focus rfl); (focus exact wt); (focus (decide +kernel)); (focus exact hsq); (focus rfl); (focus (first | exact qg4 | exact qs4))) | (apply drnK_take 6; (focus rfl); (focus rfl); (focus exact wt); (focus (decide +kernel)); (focus exact hsq); (focus rfl); (focus (first | exact qs6 | exact qg6 | exact q_max rfl rfl rfl | exact q_sliceData rfl rfl (by omega) | exact q_sliceDataN rfl rfl | exact q_unsafeStringN rfl rfl rfl | exact q_cap_slice rfl rfl))) | (apply drnK_done; (focus (decide +kernel))) | (apply drnK_skip; (focus rfl)) | (apply drnK_wrap; (focus rfl)))))
    (first | refine run_qs wt (by rfl) (q_slice_cap (m := xs.length + 3) rfl rfl rfl (by omega) (by omega)) ?_ | (refine drnK_at 4 ?_; refine drnK_take _ rfl rfl wt (by decide +kernel) hsq rfl (q_slice_cap (m := xs.length + 3) rfl rfl rfl (by omega) (by omega)) ?_))
    (repeat' (first | (apply drnK_oneq 3; (focus rfl); (focus rfl); (focus (decide +kernel)); (focus exact wt); (focus rfl); (focus (first | exact qg3 | exact qs3)); (focus exact hsq)) | (apply drnK_done; (focus (decide +kernel))) | (apply drnK_skip; (focus rfl))))
    (try first | refine run_qs wt (by rfl) (q_index_raw (i := xs.length + k) (m := xs.length + 3) (c := xs.length + 3) rfl rfl rfl (by omega) (by omega)) ?_ | (refine drnK_at 10 ?_; refine drnK_take _ rfl rfl wt (by decide +kernel) hsq rfl (q_index_raw (i := xs.length + k) (m := xs.length + 3) (c := xs.length + 3) rfl rfl rfl (by omega) (by omega)) ?_))
    (try skip)
    (first | (refine run_on wt (opr_store_ownm (f := fE) (q' := x) rfl rfl rfl rfl (by exact pka) rfl (by omega) (by intro _; rfl) (by assumption) rfl rfl (by rfl)) ?_; rintro _ _ ⟨rfl, rfl⟩) | (refine drnK_at 11 ?_; (first | refine drnK_ones _ (by rfl) (by rfl) (by kernel_rfl) wt (by rfl) (by exact (opr_store_ownm (f := fE) (q' := x) rfl rfl rfl rfl (by exact pka) rfl (by omega) (by intro _; rfl) (by assumption) rfl rfl (by rfl))) ?_ | refine drnK_onen _ (by rfl) (by rfl) (by kernel_rfl) wt (by exact (opr_store_ownm (f := fE) (q' := x) rfl rfl rfl rfl (by exact pka) rfl (by omega) (by intro _; rfl) (by assumption) rfl rfl (by rfl))) ?_); rintro _ _ ⟨rfl, rfl⟩; refine ⟨(by first | exact fun h => absurd h (by decide) | exact fun _ => hsq), ?_⟩; (try dsimp only [List.cons_append, List.nil_append])))
    (repeat' (first | (apply run_qg 1; (focus rfl); (focus exact wt); (focus rfl); (focus (exact qg1))) | (apply run_qg 4; (focus rfl); (focus exact wt); (focus rfl); (focus (first | exact qg4 | exact qs4))) | refine cod_region ?_ | refine run_nil ?_ | refine pst_then ?_ | refine pst_block ?_ | (apply drnK_end; (focus (decide +kernel)))))
    refine pst_again ((k + 1, Y.set (xs.length + k) x)) ?_ (FSub.of (by (try dsimp only); exact fsa)) (by (try dsimp only); exact hsa) ?_
    · refine ⟨hlt, by rw [List.length_set]; exact hY, ?_⟩
      show (Y.set (xs.length + k) x).take (xs.length + (k + 1)) = _
      rw [← Nat.add_assoc, take_set_one (by omega), hT, List.replicate_succ', List.append_assoc]
    · show 3 - (k + 1) < 3 - k
      omega
  · have hk3 : k = 3 := by omega
    subst hk3
    have hYx : Y = xs ++ [x, x, x] := by
      rw [List.take_of_length_le (by omega)] at hT
      exact hT
    subst hYx
    (repeat' (first | (apply run_qg 1; (focus rfl); (focus exact wt); (focus rfl); (focus (exact qg1))) | (apply run_qg 4; (focus rfl); (focus exact wt); (focus rfl); (focus (first | exact qg4 | exact qs4))) | refine cod_seq ?_ | refine cod_region ?_ | refine run_nil ?_ | refine pst_then ?_ | (apply cod_cond_f; (focus rfl)) | refine cod_exit ?_ | refine cod_ret ?_ | refine pst_block_here ?_ | refine pst_then_exit ?_))
    exact pst_fin rfl (by exact resa) _ (⟨g, rfl, rfl⟩) (by exact hsa)
set_option maxRecDepth 100000 in
set_option maxHeartbeats 8000000 in
theorem filled_E (g : Nat) (xs : List (DEnt)) (x : DEnt) (hn : xs.length ≤ 1000000000000000000) :
    Ct Try.prog 44 [.slice (some ⟨g, 0, none⟩) xs.length (xs.length + 3), .agg #[.string (str x.1), .int .i64 x.2]] [sl 2 (.slice (some ⟨g, 0, none⟩) (xs.length + 3) (xs.length + 3)) ((xs ++ [x, x, x]).map fE)] fun v H' => v = .bool true ∧ H' = [] := by
  (refine spec_enter Try.func44 Try.ntmps44 rfl rfl fun Fr => ?_; dsimp only [List.cons_append, List.nil_append, ini, Nat.reduceAdd])
  (repeat' (first | (apply run_qg 1; (focus rfl); (focus exact wt); (focus rfl); (focus (exact qg1))) | (apply run_qg 6; (focus rfl); (focus exact wt); (focus rfl); (focus (first | exact qs6 | exact qg6 | exact q_max rfl rfl rfl | exact q_sliceData rfl rfl (by omega) | exact q_sliceDataN rfl rfl | exact q_unsafeStringN rfl rfl rfl | exact q_cap_slice rfl rfl))) | refine cod_seq ?_ | refine cod_region ?_ | refine run_nil ?_ | refine pst_then ?_ | (apply run_osg 8; (focus rfl); (focus exact wt); (focus rfl); (focus (exact opr_box_agg rfl rfl)); (rintro _ _ ⟨b, rfl, rfl⟩))))
  refine run_qs wt (by rfl) (q_slice_rest (m := 3) rfl rfl rfl rfl rfl (by omega) rfl (by decide)) ?_
  refine run_heap (sl_tail (k := xs.length) pka (by simp) rfl) ?_
  rw [show ((xs ++ [x, x, x]).map fE).drop xs.length = (List.replicate 3 x).map fE from by simp [List.replicate], show xs.length + 3 - xs.length = 3 from by omega]
  (repeat' (first | (apply run_qg 1; (focus rfl); (focus exact wt); (focus rfl); (focus (exact qg1))) | (apply run_qg 6; (focus rfl); (focus exact wt); (focus rfl); (focus (first | exact qs6 | exact qg6 | exact q_max rfl rfl rfl | exact q_sliceData rfl rfl (by omega) | exact q_sliceDataN rfl rfl | exact q_unsafeStringN rfl rfl rfl | exact q_cap_slice rfl rfl))) | refine run_nil ?_ | refine pst_then ?_ | refine cod_block ?_))
  (refine cod_loop_ro (σ := Nat) (fun k => k ≤ 3) (fun k => [(14, .int .i64 (k : Int))]) (fun k => 3 - k) (0) (by exact Nat.zero_le _) (by exact fsa) (fun k hk => ?_); dsimp only [List.cons_append, List.nil_append])
  by_cases hlt : k < 3
  · have hx : (List.replicate 3 x)[k]? = some x := by rw [List.getElem?_replicate, if_pos hlt]
    have h3 : (List.replicate 3 x).length = 3 := List.length_replicate
    generalize List.replicate 3 x = X3 at hx h3 ⊢
    (repeat' (first | (apply run_qg 1; (focus rfl); (focus exact wt); (focus rfl); (focus (exact qg1))) | (apply run_qg 2; (focus rfl); (focus exact wt); (focus rfl); (focus (first | exact qg2 | exact qs2))) | (apply run_qg 3; (focus rfl); (focus exact wt); (focus rfl); (focus (first | exact qg3 | exact qs3))) | (apply run_qg 4; (focus rfl); (focus exact wt); (focus rfl); (focus (first | exact qg4 | exact qs4))) | refine cod_seq ?_ | refine cod_region ?_ | refine run_nil ?_ | refine pst_then ?_ | (apply cod_cond_t; (focus rfl)) | (apply cod_cond_f; (focus rfl)) | refine cod_block ?_ | refine cod_skip ?_ | refine pst_block ?_ | (apply run_osg 8; (focus rfl); (focus exact wt); (focus rfl); (focus (exact opr_new rfl)); (rintro _ _ ⟨b, rfl, rfl⟩)) | (apply run_ong 9; (focus rfl); (focus exact wt); (focus (exact opr_store_box_agg rfl rfl rfl (by exact pka) rfl rfl rfl (by exact spla))); (rintro _ _ ⟨rfl, rfl⟩))))
    refine pst_again (k + 1) ?_ (FSub.of (by (try dsimp only); exact fsa)) (by (try dsimp only); exact hsa) ?_
    · exact hlt
    · show 3 - (k + 1) < 3 - k
      omega
  · (repeat' (first | (apply run_qg 1; (focus rfl); (focus exact wt); (focus rfl); (focus (exact qg1))) | (apply run_qg 4; (focus rfl); (focus exact wt); (focus rfl); (focus (first | exact qg4 | exact qs4))) | refine cod_seq ?_ | refine cod_region ?_ | refine run_nil ?_ | refine pst_then ?_ | (apply cod_cond_f; (focus rfl)) | refine cod_exit ?_ | refine cod_ret ?_ | refine pst_block_here ?_ | refine pst_then_exit ?_))
    exact pst_fin rfl (by exact resa) _ (⟨rfl, rfl⟩) (by exact hsa)
set_option maxRecDepth 100000 in
set_option maxHeartbeats 8000000 in
theorem spoil_E (q : Option Addr) (n m c : Nat) (xs : List Value) (x : DEnt) :
    Ct Try.prog 46 [.slice q n c, .agg #[.string (str x.1), .int .i64 x.2]] [own (.slice q m c) 62 2 m xs] fun v H' => v = .tuple #[] ∧ H' = [] := by
  refine ct_whole fun raw hr _ hc hq => ?_
  unfold maxLen at hc
  (refine spec_enter Try.func46 Try.ntmps46 rfl rfl fun Fr => ?_; dsimp only [List.cons_append, List.nil_append, ini, Nat.reduceAdd])
  (repeat' (first | (apply run_qg 1; (focus rfl); (focus exact wt); (focus rfl); (focus (exact qg1))) | (apply run_qg 6; (focus rfl); (focus exact wt); (focus rfl); (focus (first | exact qs6 | exact qg6 | exact q_max rfl rfl rfl | exact q_sliceData rfl rfl (by omega) | exact q_sliceDataN rfl rfl | exact q_unsafeStringN rfl rfl rfl | exact q_cap_slice rfl rfl))) | (apply run_qg 12; (focus rfl); (focus exact wt); (focus rfl); (focus (first | exact qs12 | exact q_cutp rfl rfl rfl rfl (by omega) (by omega) | exact q_slice_cap rfl rfl rfl rfl (by omega)))) | refine cod_seq ?_ | refine cod_region ?_ | refine run_nil ?_ | refine pst_then ?_ | refine cod_block ?_ | (apply run_osg 8; (focus rfl); (focus exact wt); (focus rfl); (focus (exact opr_box_agg rfl rfl)); (rintro _ _ ⟨b, rfl, rfl⟩))))
  (refine cod_loop_rw (σ := Nat) (fun k => k ≤ c) (fun k => [(11, .int .i64 (k : Int))]) (fun k => [own (.slice q c c) 62 2 c (flat fE (List.replicate k x) ++ raw.drop (k * 2))]) _ (fun k => c - k) (0) (by exact Nat.zero_le _) (by exact fsa) (by (first | exact HSub.of_picks_rest (by exact pca))) (fun k hk => ?_); dsimp only [List.cons_append, List.nil_append])
  by_cases hlt : k < c
  · (repeat' (first | (apply run_qg 1; (focus rfl); (focus exact wt); (focus rfl); (focus (exact qg1))) | (apply run_qg 2; (focus rfl); (focus exact wt); (focus rfl); (focus (first | exact qg2 | exact qs2))) | (apply run_qg 3; (focus rfl); (focus exact wt); (focus rfl); (focus (first | exact qg3 | exact qs3))) | (apply run_qg 4; (focus rfl); (focus exact wt); (focus rfl); (focus (first | exact qg4 | exact qs4))) | refine cod_seq ?_ | refine cod_region ?_ | refine run_nil ?_ | refine pst_then ?_ | (apply cod_cond_t; (focus rfl)) | refine cod_block ?_ | refine cod_skip ?_))
    refine run_on wt (opr_store_own (us := fE x) rfl rfl rfl rfl pka rfl hlt (by show 0 + 2 ≤ 2; omega) rfl (splice_spoil fE x rfl hr hlt)) ?_
    rintro _ _ ⟨rfl, rfl⟩
    (repeat' (first | (apply run_qg 1; (focus rfl); (focus exact wt); (focus rfl); (focus (exact qg1))) | (apply run_qg 4; (focus rfl); (focus exact wt); (focus rfl); (focus (first | exact qg4 | exact qs4))) | refine cod_region ?_ | refine run_nil ?_ | refine pst_then ?_ | refine pst_block ?_))
    refine pst_again (k + 1) ?_ (FSub.of (by (try dsimp only); exact fsa)) (by (try dsimp only); exact hsa) ?_
    · exact hlt
    · show c - (k + 1) < c - k
      omega
  · (repeat' (first | (apply run_qg 4; (focus rfl); (focus exact wt); (focus rfl); (focus (first | exact qg4 | exact qs4))) | refine cod_seq ?_ | refine cod_region ?_ | refine run_nil ?_ | refine pst_then ?_ | (apply cod_cond_f; (focus rfl)) | refine cod_exit ?_ | refine pst_block_here ?_ | refine pst_then_exit ?_))
    exact pst_fin_end rfl (by exact resa) _ (⟨rfl, rfl⟩) (by exact hsa)
set_option maxRecDepth 100000 in
set_option maxHeartbeats 8000000 in
theorem clone_E (q : Option Addr) (c : Nat) (xs : List (DEnt)) (hn : xs.length * 24 ≤ 140737488355328) :
    Ct Try.prog 45 [.slice q xs.length c] [sl 2 (.slice q xs.length c) (xs.map fE)] fun v H' => ∃ q' c', v = .slice q' xs.length c' ∧ H' = [own (.slice q' xs.length c') 62 2 xs.length (flat fE xs)] := by
  refine ct_sl_nil (fun hq hc hx => ?_) fun hq => ?_
  · subst hq
    subst hc
    have hx' : xs = [] := by simpa using hx
    subst hx'
    (refine spec_enter Try.func45 Try.ntmps45 rfl rfl fun Fr => ?_; dsimp only [List.cons_append, List.nil_append, ini, Nat.reduceAdd])
    (repeat' (first | (apply run_qg 1; (focus rfl); (focus exact wt); (focus rfl); (focus (exact qg1))) | refine cod_seq ?_ | refine cod_region ?_ | refine run_nil ?_ | refine pst_then ?_))
    refine run_qs wt (by rfl) (q_slice_isnil rfl rfl rfl) ?_
    (repeat' (first | (apply run_qg 1; (focus rfl); (focus exact wt); (focus rfl); (focus (exact qg1))) | refine cod_seq ?_ | refine cod_region ?_ | refine run_nil ?_ | refine pst_then ?_ | (apply cod_cond_t; (focus rfl)) | refine cod_ret ?_ | refine pst_then_ret ?_))
    refine pst_weak (FSub.refl _) (heap_nil _ 62 2) ?_
    exact pst_fin rfl (by exact resa) _ (⟨none, 0, rfl, rfl⟩) (by exact hsa)
  · obtain ⟨ad, rfl⟩ := hq
    (refine spec_enter Try.func45 Try.ntmps45 rfl rfl fun Fr => ?_; dsimp only [List.cons_append, List.nil_append, ini, Nat.reduceAdd])
    (repeat' (first | (apply run_qg 1; (focus rfl); (focus exact wt); (focus rfl); (focus (exact qg1))) | refine cod_seq ?_ | refine cod_region ?_ | refine run_nil ?_ | refine pst_then ?_))
    refine run_qs wt (by rfl) (q_slice_isnil rfl rfl rfl) ?_
    (repeat' (first | refine cod_seq ?_ | refine cod_region ?_ | refine run_nil ?_ | refine pst_then ?_ | (apply cod_cond_f; (focus rfl)) | refine cod_skip ?_))
    (refine run_os wt rfl (opr_empty rfl) ?_; rintro _ _ ⟨g, rfl, rfl⟩)
    (repeat' (first | (apply run_qg 1; (focus rfl); (focus exact wt); (focus rfl); (focus (exact qg1)))))
    (refine run_os wt rfl (opr_append (cnt := 0) (f := fE) (ys := xs) rfl rfl rfl pka pka (by intro _; rfl) (by (first | exact one_fS | exact one_fI | exact one_fB | exact one_fP | exact one_fIIS | exact one_fIIIS | exact one_fII | exact one_fSI | exact one_fIIU | exact one_fY | exact one_fBl | exact one_fT | exact one_fE | assumption)) rfl (by omega) (by (unfold maxLen); omega)) ?_; rintro _ _ ⟨q2, c2, rfl, rfl⟩)
    rw [Nat.zero_add, List.nil_append]
    (repeat' (first | (apply run_qg 1; (focus rfl); (focus exact wt); (focus rfl); (focus (exact qg1))) | refine run_nil ?_ | refine pst_then ?_ | refine cod_ret ?_))
    exact pst_fin rfl (by exact resa) _ (⟨q2, c2, rfl, rfl⟩) (by exact hsa)

end Go.Proofs.Ytknclflgghnojaa.own
