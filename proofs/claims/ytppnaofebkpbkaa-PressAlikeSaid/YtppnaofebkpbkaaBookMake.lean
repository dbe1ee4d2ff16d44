/-
  code.Make: the walk.
-/
import Derived.Test.YtppnaofebkpbkaaBook
namespace Go.Proofs.Ytppnaofebkpbkaa.code
open Go.RowKit kit sl lens
set_option linter.unusedVariables false
attribute [local irreducible] bkC
attribute [local irreducible] box own sl old bptr eptr Qt Opr Run Cod Pst Drn
/-- the book of lengths -/
def bookC (q : Option Addr) (c : Nat) (l : List Int) : List Value := bkC (.slice q (sgs l 15).length c) (fA l 16) (fR l 16) (fC l)
theorem zero_bk : bkC (.slice none 0 0) (fun _ => 0) (fun _ => 0) (fun _ => 0) = .slice none 0 0 :: List.replicate 48 (.int .i64 0) := by unfold bkC; rfl
theorem fA_one (l : List Int) : (fun _ => 0) = fA l 1 := by
  funext j
  unfold fA
  split
  · rename_i h
    rw [show j = 0 by omega]; rfl
  · rfl
theorem fR_one (l : List Int) : (fun _ => 0) = fR l 1 := by
  funext j
  unfold fR
  split
  · rename_i h
    rw [show j = 0 by omega]; rfl
  · rfl
theorem splice_all {cs us : List Value} (h : us.length = cs.length) : splice cs 0 us = us := by
  rw [splice_eq _ _ _ (by omega)]
  simp [h]
theorem cntZ_zero (l : List Int) : (fun _ => 0) = cntZ (l.take 0) := by
  funext j
  rfl
set_option maxRecDepth 100000 in
set_option maxHeartbeats 8000000 in
theorem make_any (q : Option Addr) (c : Nat) (l : List Int) (hg : ∀ x ∈ l, 0 ≤ x ∧ x ≤ 15) (hn : l.length ≤ 320) :
    Ct Try.prog 71 [.slice q l.length c] [sl 1 (.slice q l.length c) (l.map fI)] fun v H' => ∃ q2 c2, v = .agg (bookC q2 c2 l).toArray ∧ H' = [own (.slice q2 (sgs l 15).length c2) 3 1 (sgs l 15).length (flat fI (sgs l 15))] := by
  unfold bookC
  (refine spec_enter Try.func71 Try.ntmps71 rfl rfl fun Fr => ?_; dsimp only [List.cons_append, List.nil_append, ini, Nat.reduceAdd])
  (repeat' (first | (apply run_qg 1; (focus rfl); (focus exact wt); (focus rfl); (focus (exact qg1))) | (apply run_qg 6; (focus rfl); (focus exact wt); (focus rfl); (focus (first | exact qs6 | exact qg6 | exact q_max rfl rfl rfl | exact q_sliceData rfl rfl (by omega) | exact q_sliceDataN rfl rfl | exact q_unsafeStringN rfl rfl rfl | exact q_cap_slice rfl rfl))) | refine cod_seq ?_ | refine cod_region ?_ | refine run_nil ?_ | refine pst_then ?_ | refine cod_block ?_ | (apply run_osg 8; (focus rfl); (focus exact wt); (focus rfl); (focus (exact opr_new rfl)); (rintro _ _ ⟨b, rfl, rfl⟩))))
  rename_i b2
  refine cod_heap (H' := box b (bkC (.slice none 0 0) (fA l 1) (fR l 1) (cntZ (l.take 0))) 98 :: box b2 (bkC (.slice none 0 0) (fA l 1) (fR l 1) (cntZ (l.take 0))) 98 :: sl 1 (.slice q l.length c) (l.map fI) :: Fr) ?_ ?_
  · rw [← fA_one l, ← fR_one l, ← cntZ_zero l, zero_bk]; exact HSub.refl _
  (refine cod_loop_rw (σ := Nat) (fun k => k ≤ l.length) (fun k => [(12, .int .i64 (k : Int))]) (fun k => [box b (bkC (.slice none 0 0) (fA l 1) (fR l 1) (cntZ (l.take k))) 98]) _ (fun k => l.length - k) (0) (by exact Nat.zero_le _) (by exact fsa) (by (first | exact HSub.of_picks_rest (by exact pca))) (fun k hk => ?_); dsimp only [List.cons_append, List.nil_append])
  rcases Nat.lt_or_ge k l.length with hlt | hge
  · obtain ⟨x, hx⟩ : ∃ x, l[k]? = some x := ⟨_, List.getElem?_eq_getElem hlt⟩
    obtain ⟨hx0, hx15⟩ := hg x (List.mem_of_getElem? hx)
    obtain ⟨m, rfl⟩ := Int.eq_ofNat_of_zero_le hx0
    have hcn := cntZ_next hx
    have hcb : 0 ≤ cntZ (l.take k) m ∧ cntZ (l.take k) m ≤ 320 := by
      unfold cntZ
      have := cnt_le (l.take k) m
      rw [List.length_take] at this
      omega
    (repeat' (first | (apply run_qg 2; (focus rfl); (focus exact wt); (focus rfl); (focus (exact q_load_at rfl rfl (by exact pka) (by first | assumption | exact bk_q .. | exact bk_A (by omega) | exact bk_R (by omega) | exact bk_C (by omega))))) | (apply run_qg 3; (focus rfl); (focus exact wt); (focus rfl); (focus (exact q_index_box rfl rfl rfl (by first | assumption | rfl | omega) (by omega) (by rfl)))) | (apply run_qg 1; (focus rfl); (focus exact wt); (focus rfl); (focus (exact qg1))) | (apply run_qg 2; (focus rfl); (focus exact wt); (focus rfl); (focus (first | exact qg2 | exact qs2))) | (apply run_qg 3; (focus rfl); (focus exact wt); (focus rfl); (focus (first | exact qg3 | exact qs3))) | (apply run_qg 4; (focus rfl); (focus exact wt); (focus rfl); (focus (first | exact qg4 | exact qs4))) | refine cod_seq ?_ | refine cod_region ?_ | refine run_nil ?_ | refine pst_then ?_ | (apply cod_cond_t; (focus rfl)) | refine cod_block ?_ | refine cod_skip ?_))
    refine run_on wt (opr_store_box_one rfl rfl rfl rfl pka (by rw [bk_len]; simp; omega) (bk_setC (by omega))) ?_
    rintro _ _ ⟨rfl, rfl⟩
    rw [hcn]
    (repeat' (first | (apply run_qg 1; (focus rfl); (focus exact wt); (focus rfl); (focus (exact qg1))) | (apply run_qg 4; (focus rfl); (focus exact wt); (focus rfl); (focus (first | exact qg4 | exact qs4))) | refine cod_region ?_ | refine run_nil ?_ | refine pst_then ?_ | refine pst_block ?_))
    refine pst_again (k + 1) ?_ (FSub.of (by (try dsimp only); exact fsa)) (by (try dsimp only); exact hsa) ?_
    · omega
    · omega
  · have hkl : k = l.length := by omega
    subst hkl
    (repeat' (first | (apply run_qg 3; (focus rfl); (focus exact wt); (focus rfl); (focus (first | exact qg3 | exact qs3))) | (apply run_qg 4; (focus rfl); (focus exact wt); (focus rfl); (focus (first | exact qg4 | exact qs4))) | refine cod_seq ?_ | refine cod_region ?_ | refine run_nil ?_ | refine pst_then ?_ | (apply cod_cond_f; (focus rfl)) | refine cod_exit ?_ | refine pst_block_here ?_ | refine pst_then_exit ?_))
    rw [List.take_length]
    refine run_qg 3 rfl wt rfl (q_index_box (k := 0) rfl rfl rfl rfl (by omega) rfl) ?_
    refine run_on wt (opr_store_box_one rfl rfl rfl rfl pka (by rw [bk_len]; rfl) (bk_setC (i := 0) (by omega))) ?_
    rintro _ _ ⟨rfl, rfl⟩
    rw [cntZ_cut]
    (repeat' (first | (apply run_qg 1; (focus rfl); (focus exact wt); (focus rfl); (focus (exact qg1))) | refine cod_seq ?_ | refine cod_region ?_ | refine run_nil ?_ | refine pst_then ?_ | refine cod_block ?_))
    refine cod_heap (heap_nil _ 3 1) ?_
    (refine cod_loop_rw (σ := Nat × Option Addr × Nat × List Int) (fun x => 1 ≤ x.1 ∧ x.1 ≤ 16 ∧ x.2.2.2 = sgs l (x.1 - 1)) (fun x => [(6, .int .i64 ((nxt l (x.1 - 1) : Nat) : Int)), (7, .int .i64 (x.1 : Int))]) (fun x => [box b (bkC (.slice x.2.1 x.2.2.2.length x.2.2.1) (fA l x.1) (fR l x.1) (fC l)) 98, own (.slice x.2.1 x.2.2.2.length x.2.2.1) 3 1 x.2.2.2.length (flat fI x.2.2.2)]) _ (fun x => 16 - x.1) ((1, none, 0, [])) (by exact ⟨Nat.le_refl _, by decide, rfl⟩) (by exact fsa) (by (first | exact HSub.of_picks_rest (by exact pca))) (fun ⟨w, q2, c2, sg⟩ ⟨hw1, hw16, hsg⟩ => ?_); dsimp only [List.cons_append, List.nil_append])
    dsimp only at hw1 hw16 hsg ⊢
    rcases Nat.lt_or_ge w 16 with hlt | hge
    · have hw' : (w : Int) - 1 = ((w - 1 : Nat) : Int) := by omega
      have hnb := nxt_bd l hn (w - 1) (by omega)
      have hcb := fC_le l (w - 1)
      have hnf := nxt_fC l hw1
      have hfa := fA_next l w
      have hfr := fR_next l w
      rw [← hsg] at hfr
      have hsl : sg.length ≤ 4800 := by
        rw [hsg]
        have h1 := sgs_len l (w - 1)
        have h2 : (w - 1) * l.length ≤ 15 * 320 := Nat.mul_le_mul (by omega) hn
        omega
      (repeat' (first | (apply run_qg 2; (focus rfl); (focus exact wt); (focus rfl); (focus (exact q_load_at rfl rfl (by exact pka) (by first | assumption | exact bk_q .. | exact bk_A (by omega) | exact bk_R (by omega) | exact bk_C (by omega))))) | (apply run_qg 3; (focus rfl); (focus exact wt); (focus rfl); (focus (exact q_index_box rfl rfl rfl (by first | assumption | rfl | omega) (by omega) (by rfl)))) | (apply run_qg 1; (focus rfl); (focus exact wt); (focus rfl); (focus (exact qg1))) | (apply run_qg 3; (focus rfl); (focus exact wt); (focus rfl); (focus (first | exact qg3 | exact qs3))) | (apply run_qg 4; (focus rfl); (focus exact wt); (focus rfl); (focus (first | exact qg4 | exact qs4))) | refine cod_seq ?_ | refine cod_region ?_ | refine run_nil ?_ | refine pst_then ?_ | (apply cod_cond_t; (focus rfl)) | refine cod_block ?_ | refine cod_skip ?_))
      rw [hnf]
      refine run_on wt (opr_store_box_one rfl rfl rfl rfl pka (by rw [bk_len]; simp; omega) (bk_setA (by omega))) ?_
      rintro _ _ ⟨rfl, rfl⟩
      rw [hfa]
      (repeat' (first | (apply run_qg 2; (focus rfl); (focus exact wt); (focus rfl); (focus (exact q_load_at rfl rfl (by exact pka) (by first | assumption | exact bk_q .. | exact bk_A (by omega) | exact bk_R (by omega) | exact bk_C (by omega))))) | (apply run_qg 3; (focus rfl); (focus exact wt); (focus rfl); (focus (exact q_index_box rfl rfl rfl (by first | assumption | rfl | omega) (by omega) (by rfl)))) | (apply run_qg 1; (focus rfl); (focus exact wt); (focus rfl); (focus (exact qg1))) | (apply run_qg 3; (focus rfl); (focus exact wt); (focus rfl); (focus (first | exact qg3 | exact qs3))) | (apply run_qg 6; (focus rfl); (focus exact wt); (focus rfl); (focus (first | exact qs6 | exact qg6 | exact q_max rfl rfl rfl | exact q_sliceData rfl rfl (by omega) | exact q_sliceDataN rfl rfl | exact q_unsafeStringN rfl rfl rfl | exact q_cap_slice rfl rfl))) | refine cod_seq ?_ | refine cod_region ?_ | refine run_nil ?_ | refine pst_then ?_))
      refine run_on wt (opr_store_box_one rfl rfl rfl rfl pka (by rw [bk_len]; simp; omega) (bk_setR (by omega))) ?_
      rintro _ _ ⟨rfl, rfl⟩
      rw [hfr]
      (repeat' (first | (apply run_qg 1; (focus rfl); (focus exact wt); (focus rfl); (focus (exact qg1))) | (apply run_qg 6; (focus rfl); (focus exact wt); (focus rfl); (focus (first | exact qs6 | exact qg6 | exact q_max rfl rfl rfl | exact q_sliceData rfl rfl (by omega) | exact q_sliceDataN rfl rfl | exact q_unsafeStringN rfl rfl rfl | exact q_cap_slice rfl rfl))) | refine cod_seq ?_ | refine cod_region ?_ | refine run_nil ?_ | refine pst_then ?_ | refine cod_block ?_))
      (refine cod_loop_rw (σ := Nat × Option Addr × Nat × List Int) (fun x => x.1 ≤ l.length ∧ x.2.2.2 = sg ++ idx l w x.1) (fun x => [(50, .int .i64 (x.1 : Int))]) (fun x => [box b (bkC (.slice x.2.1 x.2.2.2.length x.2.2.1) (fA l (w + 1)) (fR l (w + 1)) (fC l)) 98, own (.slice x.2.1 x.2.2.2.length x.2.2.1) 3 1 x.2.2.2.length (flat fI x.2.2.2)]) _ (fun x => l.length - x.1) ((0, q2, c2, sg)) (by exact ⟨Nat.zero_le _, by rw [idx_zero, List.append_nil]⟩) (by exact fsa) (by (first | exact HSub.of_picks_rest (by exact pca))) (fun ⟨i, q3, c3, sg2⟩ ⟨hi, hsg2⟩ => ?_); dsimp only [List.cons_append, List.nil_append])
      dsimp only at hi hsg2 ⊢
      rcases Nat.lt_or_ge i l.length with hlt2 | hge2
      · obtain ⟨x, hx⟩ : ∃ x, l[i]? = some x := ⟨_, List.getElem?_eq_getElem hlt2⟩
        have hin := idx_next (w := w) hx
        have hsl2 : sg2.length ≤ 5120 := by
          rw [hsg2, List.length_append]
          have := idx_len l w i
          omega
        by_cases hxw : x = (w : Int)
        · rw [if_pos hxw] at hin
          (repeat' (first | (apply run_qg 2; (focus rfl); (focus exact wt); (focus rfl); (focus (exact q_load_at rfl rfl (by exact pka) (by first | assumption | exact bk_q .. | exact bk_A (by omega) | exact bk_R (by omega) | exact bk_C (by omega))))) | (apply run_qg 1; (focus rfl); (focus exact wt); (focus rfl); (focus (exact qg1))) | (apply run_qg 2; (focus rfl); (focus exact wt); (focus rfl); (focus (first | exact qg2 | exact qs2))) | (apply run_qg 3; (focus rfl); (focus exact wt); (focus rfl); (focus (first | exact qg3 | exact qs3))) | (apply run_qg 4; (focus rfl); (focus exact wt); (focus rfl); (focus (first | exact qg4 | exact qs4))) | refine cod_seq ?_ | refine cod_region ?_ | refine run_nil ?_ | refine pst_then ?_ | (apply cod_cond_t; (focus rfl)) | refine cod_block ?_ | refine cod_skip ?_ | (apply run_osg 10; (focus rfl); (focus exact wt); (focus rfl); (focus (exact opr_buildSlice rfl rfl rfl (by exact blda) rfl rfl (by decide) rfl)); (rintro _ _ ⟨q, rfl, rfl⟩))))
          refine run_os wt rfl (by first | exact opr_append_lit0 (fI) [(i : Int)] rfl rfl rfl (by exact pka) (by rfl) (by rfl) (by intro _; rfl) (by (first | exact one_fS | exact one_fI | exact one_fB | exact one_fP | exact one_fIIS | exact one_fIIIS | exact one_fII | exact one_fSI | exact one_fIIU | exact one_fY | exact one_fBl | exact one_fT | exact one_fE | assumption)) rfl (by simp only [List.length_cons, List.length_nil]; omega) (by (unfold maxLen); simp only [List.length_cons, List.length_nil]; omega) | exact opr_append_lit (fI) [(i : Int)] rfl rfl rfl (by exact pka) (by exact pka) (by rfl) (by rfl) (by first | rfl | omega) (by intro _; rfl) (by (first | exact one_fS | exact one_fI | exact one_fB | exact one_fP | exact one_fIIS | exact one_fIIIS | exact one_fII | exact one_fSI | exact one_fIIU | exact one_fY | exact one_fBl | exact one_fT | exact one_fE | assumption)) rfl (by simp only [List.length_cons, List.length_nil]; omega) (by (unfold maxLen); simp only [List.length_cons, List.length_nil]; omega)) ?_
          rintro _ _ ⟨q4, c4, rfl, rfl⟩
          (repeat' (first | (apply run_qg 3; (focus rfl); (focus exact wt); (focus rfl); (focus (first | exact qg3 | exact qs3)))))
          refine run_on wt (opr_store_box_one rfl rfl rfl rfl pka (by rw [bk_len]; rfl) (bk_setq ..)) ?_
          rintro _ _ ⟨rfl, rfl⟩
          (repeat' (first | (apply run_qg 1; (focus rfl); (focus exact wt); (focus rfl); (focus (exact qg1))) | (apply run_qg 4; (focus rfl); (focus exact wt); (focus rfl); (focus (first | exact qg4 | exact qs4))) | refine cod_region ?_ | refine run_nil ?_ | refine pst_then ?_ | refine pst_block ?_))
          refine pst_again ((i + 1, q4, c4, sg2 ++ [(i : Int)])) ?_ (FSub.of (by (try dsimp only); exact fsa)) (by (try dsimp only); exact hsa) ?_
          · exact ⟨hlt2, by dsimp only; rw [hin, hsg2, List.append_assoc]⟩
          · dsimp only; omega
        · rw [if_neg hxw] at hin
          (repeat' (first | (apply run_qg 1; (focus rfl); (focus exact wt); (focus rfl); (focus (exact qg1))) | (apply run_qg 2; (focus rfl); (focus exact wt); (focus rfl); (focus (first | exact qg2 | exact qs2))) | (apply run_qg 3; (focus rfl); (focus exact wt); (focus rfl); (focus (first | exact qg3 | exact qs3))) | (apply run_qg 4; (focus rfl); (focus exact wt); (focus rfl); (focus (first | exact qg4 | exact qs4))) | refine cod_seq ?_ | refine cod_region ?_ | refine run_nil ?_ | refine pst_then ?_ | (apply cod_cond_t; (focus rfl)) | (apply cod_cond_f; (focus rfl)) | refine cod_block ?_ | refine cod_skip ?_ | refine pst_block ?_))
          refine pst_again ((i + 1, q3, c3, sg2)) ?_ (FSub.of (by (try dsimp only); exact fsa)) (by (try dsimp only); exact hsa) ?_
          · exact ⟨hlt2, by dsimp only; rw [hin, hsg2]⟩
          · dsimp only; omega
      · have hil : i = l.length := by omega
        subst hil
        (repeat' (first | (apply run_qg 1; (focus rfl); (focus exact wt); (focus rfl); (focus (exact qg1))) | (apply run_qg 4; (focus rfl); (focus exact wt); (focus rfl); (focus (first | exact qg4 | exact qs4))) | refine cod_seq ?_ | refine cod_region ?_ | refine run_nil ?_ | refine pst_then ?_ | (apply cod_cond_f; (focus rfl)) | refine cod_exit ?_ | refine pst_block_here ?_ | refine pst_then_exit ?_ | refine pst_block ?_))
        refine pst_again ((w + 1, q3, c3, sg2)) ?_ (FSub.of (by (try dsimp only); exact fsa)) (by (try dsimp only); exact hsa) ?_
        · refine ⟨by omega, by dsimp only; omega, ?_⟩
          show sg2 = sgs l (w + 1 - 1)
          rw [hsg2, hsg]
          obtain ⟨v, rfl⟩ : ∃ v, w = v + 1 := ⟨w - 1, by omega⟩
          rfl
        · dsimp only; omega
    · have hw : w = 16 := by omega
      subst hw
      have hsg' : sg = sgs l 15 := hsg
      subst hsg'
      (repeat' (first | (apply run_qg 1; (focus rfl); (focus exact wt); (focus rfl); (focus (exact qg1))) | (apply run_qg 4; (focus rfl); (focus exact wt); (focus rfl); (focus (first | exact qg4 | exact qs4))) | refine cod_seq ?_ | refine cod_region ?_ | refine run_nil ?_ | refine pst_then ?_ | (apply cod_cond_f; (focus rfl)) | refine cod_exit ?_ | refine pst_block_here ?_ | refine pst_then_exit ?_))
      refine run_qg 2 rfl wt rfl (q_load_all rfl rfl pka (bk_len ..)) ?_
      refine run_on wt (opr_store_box_agg rfl rfl rfl pka (bk_len ..) (by rw [bk_len, bk_len]; rfl) ?_ (splice_all (by rw [bk_len, bk_len]))) ?_
      · unfold bkC; simp [Value.oneCell']
      rintro _ _ ⟨rfl, rfl⟩
      (repeat' (first | refine run_nil ?_ | refine pst_then ?_ | refine cod_ret ?_))
      exact pst_fin rfl (Res.r1 (resV_box rfl pka (bk_len ..))) _ ⟨q2, c2, rfl, rfl⟩ hsa
end Go.Proofs.Ytppnaofebkpbkaa.code
