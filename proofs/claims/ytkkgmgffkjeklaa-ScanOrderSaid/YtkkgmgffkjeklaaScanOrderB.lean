/-
  ScanOrder: the walk, one way (printed by gen_scanorder.py).
-/
import Derived.Test.YtkkgmgffkjeklaaScanOrderH
namespace Go.Proofs.Ytkkgmgffkjeklaa.lawScanOrder
open Go.RowKit kit sl Go.Proofs.Ytkkgmgffkjeklaa.use Go.Proofs.Ytkkgmgffkjeklaa.blob Go.Proofs.Ytkkgmgffkjeklaa.seal Go.Proofs.Ytkkgmgffkjeklaa.disk Go.Proofs.Ytkkgmgffkjeklaa.within
set_option linter.unusedVariables false
attribute [local irreducible] box own sl old bptr eptr Qt Opr Run Cod Pst Drn
set_option maxRecDepth 100000 in
set_option maxHeartbeats 8000000 in
theorem law_big (qa qb : Option Addr) (ca cb n t : Nat) (lb : List LB) (bs : List Bool) (after turn : Int) (hW : -9223372036854775808 ≤ after ∧ after ≤ 9223372036854775807) (hl : lb.length ≤ 1000000000000000) (hbs : bs.length ≤ 1000000000000000) (hz : ∀ r ∈ lb, r.1.length ≤ maxLen) (hn : min ((lb.length : Nat) : Int) 100 = (n : Int)) (ht : t < n) (htw : withinF turn (n : Int) = (t : Int)) (hA : 0 ≤ after ∧ 2147483647 - (n : Int) < after) :
    Ct Try.prog 6 [.slice qa lb.length ca, .slice qb bs.length cb, .int .i64 after, .int .i64 turn] [sl 1 (.slice qa lb.length ca) (lb.map rowB), many 4 (lb.map lotB), sl 1 (.slice qb bs.length cb) (bs.map fB)] fun v H' => v = .bool true ∧ H' = [] := by
  have W0 := within_ct turn n (by omega) (by omega)
  rw [htw] at W0
  have hn100 : n ≤ 100 := by omega
  have hone := one_fSE
  have hnl : n ≤ lb.length := by omega
  (refine spec_enter Try.func6 Try.ntmps6 rfl rfl fun Fr => ?_; dsimp only [List.cons_append, List.nil_append, ini, Nat.reduceAdd])
  (repeat' (first | (apply run_qg 1; (focus rfl); (focus exact wt); (focus rfl); (focus (exact qg1))) | (apply run_qg 4; (focus rfl); (focus exact wt); (focus rfl); (focus (first | exact qg4 | exact qs4))) | (apply run_qg 6; (focus rfl); (focus exact wt); (focus rfl); (focus (first | exact qs6 | exact qg6 | exact q_max rfl rfl rfl | exact q_sliceData rfl rfl (by omega) | exact q_sliceDataN rfl rfl | exact q_unsafeStringN rfl rfl rfl | exact q_cap_slice rfl rfl))) | refine cod_seq ?_ | refine cod_region ?_ | refine run_nil ?_ | refine pst_then ?_ | (apply cod_cond_t; (focus rfl))))
  rw [hn]
  refine run_os wt rfl (opr_make (fS) (str []) (c := n + 2) rfl rfl rfl (by first | rfl | omega) (by first | rfl | omega) rfl rfl (by omega) (by (unfold maxLen); omega)) ?_
  rintro _ _ ⟨q1, rfl, rfl⟩
  rw [cellsC_zero n t (bodyC 0 (zsF lb) (laF bs))]
  (repeat' (first | (apply run_qg 1; (focus rfl); (focus exact wt); (focus rfl); (focus (exact qg1))) | refine cod_seq ?_ | refine cod_region ?_ | refine run_nil ?_ | refine pst_then ?_ | refine cod_block ?_))
  refine cod_heap (heap_nil _ 49 3) ?_
  (refine cod_loop_rw (σ := Nat × Option Addr × Nat × List SEnt × Nat) (fun x => (x.1 ≤ n ∧ x.2.2.2.1.length = x.1 ∧ x.2.2.2.2 = wholeW (laF bs) x.1) ∧ (∀ j, j < x.1 → writeE (zsF lb j) = 0) ∧ ∀ (j : Nat) (r : SEnt), x.2.2.2.1[j]? = some r → r.1 = ((atP n t j : Nat) : Int) ∧ r.2.1 = zsF lb j ∧ r.2.2.1 = laF bs j ∧ lotS r ∈ lb.map lotB) (fun x => [(36, .int .i64 (x.1 : Int)), (11, .slice x.2.1 x.2.2.2.1.length x.2.2.1), (12, .int .i64 (x.2.2.2.2 : Int))]) (fun x => [own (.slice q1 (n + 2) (n + 2)) 9 1 (n + 2) (flat fS (cellsC n t (bodyC 0 (zsF lb) (laF bs)) x.1)), own (.slice x.2.1 x.2.2.2.1.length x.2.2.1) 49 3 x.2.2.2.1.length (flat fSE x.2.2.2.1)]) _ (fun x => n - x.1) ((0, none, 0, [], 0)) (by exact ⟨⟨Nat.zero_le _, rfl, rfl⟩, fun j h => absurd h (Nat.not_lt_zero _), fun j r h => by cases h⟩) (by exact fsa) (by (first | exact HSub.of_picks_rest (by exact pca))) (fun ⟨i, qw, cw, ws, wh⟩ ⟨⟨hi, hwl, hwh⟩, hE, hws⟩ => ?_); dsimp only [List.cons_append, List.nil_append])
  dsimp only at hi hwl hwh hE hws ⊢
  rcases Nat.lt_or_ge i n with hlt | hge
  · obtain ⟨⟨z, p, c⟩, hr⟩ : ∃ r, lb[i]? = some r := ⟨_, List.getElem?_eq_getElem (by omega)⟩
    have hzi : zsF lb i = z := by unfold zsF; rw [List.getD_eq_getElem?_getD, hr]; rfl
    have hzl : z.length ≤ maxLen := hz _ (List.mem_of_getElem? hr)
    have hmem : lotB (z, p, c) ∈ lb.map lotB := List.mem_map_of_mem (List.mem_of_getElem? hr)
    have hmod := Int.emod_nonneg ((i : Int) + (t : Int)) (b := (n : Int)) (by omega)
    have hmod2 := Int.emod_lt_of_pos ((i : Int) + (t : Int)) (b := (n : Int)) (by omega)
    have hcell := cellsC_at (n := n) (t := t) (bodyC 0 (zsF lb) (laF bs)) i (at_bd ht hlt).2
    have hatb := at_bd ht hlt
    have hww0 := wholeW_le (laF bs) i
    refine cod_heap (many_out (l := lb.map lotB) pka hmem) ?_
    dsimp only [lotB]
    rcases Nat.lt_or_ge i bs.length with hlb | hlb
    · obtain ⟨b, hb⟩ : ∃ b, bs[i]? = some b := ⟨_, List.getElem?_eq_getElem hlb⟩
      have hli : laF bs i = b := by unfold laF; rw [List.getD_eq_getElem?_getD, hb]; rfl
      cases b with
      | true =>
        have BW := write_any p c z true hzl
        by_cases hEz : writeE z = 0
        · have hSz : writeS z true = writeB z true := by unfold writeS; rw [if_pos hEz]
          rw [hSz, hEz] at BW
          have hsE := sealE_ok (after := 0 + 1 + (i : Int)) (b := true) (by omega) hEz
          have SC := seal_any 1 (0 + 1 + (i : Int)) (writeB z true)
          have hSS : sealS 1 (0 + 1 + (i : Int)) (writeB z true) = bodyC 0 (zsF lb) (laF bs) i := by unfold sealS bodyC; rw [if_pos hsE, hzi, hli]
          rw [hSS, hsE] at SC
          have hww : wholeW (laF bs) (i + 1) = i + 1 := by rw [wholeW, hli]; rfl
          (repeat' (first | (apply run_qg 1; (focus rfl); (focus exact wt); (focus rfl); (focus (exact qg1))) | (apply run_qg 2; (focus rfl); (focus exact wt); (focus rfl); (focus (first | exact qg2 | exact qs2))) | (apply run_qg 3; (focus rfl); (focus exact wt); (focus rfl); (focus (first | exact qg3 | exact qs3))) | (apply run_qg 4; (focus rfl); (focus exact wt); (focus rfl); (focus (first | exact qg4 | exact qs4))) | (apply run_qg 6; (focus rfl); (focus exact wt); (focus rfl); (focus (first | exact qs6 | exact qg6 | exact q_max rfl rfl rfl | exact q_sliceData rfl rfl (by omega) | exact q_sliceDataN rfl rfl | exact q_unsafeStringN rfl rfl rfl | exact q_cap_slice rfl rfl))) | refine cod_seq ?_ | refine cod_region ?_ | refine run_nil ?_ | refine pst_then ?_ | (apply cod_cond_t; (focus rfl)) | (apply cod_cond_f; (focus rfl)) | refine cod_block ?_ | refine cod_skip ?_ | (apply run_osg 7; (focus rfl); (focus exact wt); (focus rfl); (focus (exact opr_call_ls (by rfl) (W0 ..) (by rfl) lpa)); (rintro _ _ ⟨rfl, rfl⟩)) | (apply run_osg 7; (focus rfl); (focus exact wt); (focus rfl); (focus (exact opr_call_ls (by rfl) (BW ..) (by rfl) lpa)); (rintro _ _ ⟨rfl, rfl⟩))))
          (repeat' (first | (apply run_qg 1; (focus rfl); (focus exact wt); (focus rfl); (focus (exact qg1))) | (apply run_osg 7; (focus rfl); (focus exact wt); (focus rfl); (focus (exact opr_call_ls (by rfl) (SC ..) (by rfl) lpa)); (rintro _ _ ⟨rfl, rfl⟩))))
          rw [at_mod ht hlt]
          (repeat' (first | (apply run_qg 3; (focus rfl); (focus exact wt); (focus rfl); (focus (first | exact qg3 | exact qs3)))))
          (refine run_on wt (opr_store_ownm (f := fS) (q' := str (bodyC 0 (zsF lb) (laF bs) i)) rfl rfl rfl rfl (by exact pka) rfl (by omega) (by intro _; rfl) (by assumption) rfl rfl (by rfl)) ?_; rintro _ _ ⟨rfl, rfl⟩)
          rw [cellsC_set _ ht hlt]
          (repeat' (first | (apply run_qg 1; (focus rfl); (focus exact wt); (focus rfl); (focus (exact qg1))) | (apply run_qg 2; (focus rfl); (focus exact wt); (focus rfl); (focus (first | exact qg2 | exact qs2))) | (apply run_qg 3; (focus rfl); (focus exact wt); (focus rfl); (focus (first | exact qg3 | exact qs3))) | (apply run_qg 5; (focus rfl); (focus exact wt); (focus rfl); (focus (exact qg5))) | refine cod_seq ?_ | refine cod_region ?_ | refine run_nil ?_ | refine pst_then ?_ | (apply run_osg 10; (focus rfl); (focus exact wt); (focus rfl); (focus (exact opr_buildSlice rfl rfl rfl (by exact blda) rfl rfl (by decide) rfl)); (rintro _ _ ⟨q, rfl, rfl⟩))))
          refine run_os wt rfl (by first | exact opr_append_lit0 (fSE) [(((atP n t i : Nat) : Int), z, true, p, c)] rfl rfl rfl (by exact pka) (by rfl) (by rfl) (by intro _; rfl) (by (first | exact one_fS | exact one_fI | exact one_fB | exact one_fP | exact one_fIIS | exact one_fIIIS | exact one_fII | exact one_fSI | exact one_fIIU | exact one_fY | exact one_fBl | exact one_fT | exact one_fE | assumption)) rfl (by simp only [List.length_cons, List.length_nil]; omega) (by (unfold maxLen); simp only [List.length_cons, List.length_nil]; omega) | exact opr_append_lit (fSE) [(((atP n t i : Nat) : Int), z, true, p, c)] rfl rfl rfl (by exact pka) (by exact pka) (by rfl) (by rfl) (by first | rfl | omega) (by intro _; rfl) (by (first | exact one_fS | exact one_fI | exact one_fB | exact one_fP | exact one_fIIS | exact one_fIIIS | exact one_fII | exact one_fSI | exact one_fIIU | exact one_fY | exact one_fBl | exact one_fT | exact one_fE | assumption)) rfl (by simp only [List.length_cons, List.length_nil]; omega) (by (unfold maxLen); simp only [List.length_cons, List.length_nil]; omega)) ?_
          rintro _ _ ⟨q5, c5, rfl, rfl⟩
          (repeat' (first | (apply run_qg 1; (focus rfl); (focus exact wt); (focus rfl); (focus (exact qg1))) | (apply run_qg 4; (focus rfl); (focus exact wt); (focus rfl); (focus (first | exact qg4 | exact qs4))) | refine cod_seq ?_ | refine cod_region ?_ | refine run_nil ?_ | refine pst_then ?_ | (apply cod_cond_t; (focus rfl)) | refine pst_block ?_))
          refine pst_again ((i + 1, q5, c5, ws ++ [(((atP n t i : Nat) : Int), z, true, p, c)], i + 1)) ?_ (FSub.of (by (try dsimp only); exact fsa)) (by (try dsimp only); exact hsa) ?_
          · refine ⟨⟨hlt, by dsimp only; rw [List.length_append, List.length_singleton, hwl], hww.symm⟩, fun j hj => ?_, fun j r hj => ?_⟩
            · rcases (by omega : j < i ∨ j = i) with h | rfl
              · exact hE j h
              · rw [hzi]; exact hEz
            · dsimp only at hj
              rcases Nat.lt_trichotomy j ws.length with g | g | g
              · rw [List.getElem?_append_left g] at hj
                exact hws j r hj
              · subst g
                rw [List.getElem?_append_right (Nat.le_refl _), Nat.sub_self] at hj
                cases hj
                rw [hwl]
                exact ⟨rfl, hzi.symm, hli.symm, hmem⟩
              · rw [List.getElem?_eq_none (by simp; omega)] at hj
                cases hj
          · dsimp only; omega
        · have hSz : writeS z true = [] := by unfold writeS; rw [if_neg hEz]
          rw [hSz] at BW
          generalize writeE z = ez at BW hEz
          (repeat' (first | (apply run_qg 1; (focus rfl); (focus exact wt); (focus rfl); (focus (exact qg1))) | (apply run_qg 2; (focus rfl); (focus exact wt); (focus rfl); (focus (first | exact qg2 | exact qs2))) | (apply run_qg 3; (focus rfl); (focus exact wt); (focus rfl); (focus (first | exact qg3 | exact qs3))) | (apply run_qg 4; (focus rfl); (focus exact wt); (focus rfl); (focus (first | exact qg4 | exact qs4))) | (apply run_qg 6; (focus rfl); (focus exact wt); (focus rfl); (focus (first | exact qs6 | exact qg6 | exact q_max rfl rfl rfl | exact q_sliceData rfl rfl (by omega) | exact q_sliceDataN rfl rfl | exact q_unsafeStringN rfl rfl rfl | exact q_cap_slice rfl rfl))) | refine cod_seq ?_ | refine cod_region ?_ | refine run_nil ?_ | refine pst_then ?_ | (apply cod_cond_t; (focus rfl)) | refine cod_block ?_ | refine cod_ret ?_ | refine cod_skip ?_ | refine pst_block_ret ?_ | refine pst_then_ret ?_ | (apply run_osg 7; (focus rfl); (focus exact wt); (focus rfl); (focus (exact opr_call_ls (by rfl) (W0 ..) (by rfl) lpa)); (rintro _ _ ⟨rfl, rfl⟩)) | (apply run_osg 7; (focus rfl); (focus exact wt); (focus rfl); (focus (exact opr_call_ls (by rfl) (BW ..) (by rfl) lpa)); (rintro _ _ ⟨rfl, rfl⟩))))
          exact pst_fin rfl (by exact resa) _ (⟨rfl, rfl⟩) (by exact hsa)
      | false =>
        have BW := write_any p c z false hzl
        by_cases hEz : writeE z = 0
        · have hSz : writeS z false = writeB z false := by unfold writeS; rw [if_pos hEz]
          rw [hSz, hEz] at BW
          have hsE := sealE_ok (after := 0 + 1 + (i : Int)) (b := false) (by omega) hEz
          have SC := seal_any 1 (0 + 1 + (i : Int)) (writeB z false)
          have hSS : sealS 1 (0 + 1 + (i : Int)) (writeB z false) = bodyC 0 (zsF lb) (laF bs) i := by unfold sealS bodyC; rw [if_pos hsE, hzi, hli]
          rw [hSS, hsE] at SC
          have hww : wholeW (laF bs) (i + 1) = wholeW (laF bs) i := by rw [wholeW, hli]; rfl
          (repeat' (first | (apply run_qg 1; (focus rfl); (focus exact wt); (focus rfl); (focus (exact qg1))) | (apply run_qg 2; (focus rfl); (focus exact wt); (focus rfl); (focus (first | exact qg2 | exact qs2))) | (apply run_qg 3; (focus rfl); (focus exact wt); (focus rfl); (focus (first | exact qg3 | exact qs3))) | (apply run_qg 4; (focus rfl); (focus exact wt); (focus rfl); (focus (first | exact qg4 | exact qs4))) | (apply run_qg 6; (focus rfl); (focus exact wt); (focus rfl); (focus (first | exact qs6 | exact qg6 | exact q_max rfl rfl rfl | exact q_sliceData rfl rfl (by omega) | exact q_sliceDataN rfl rfl | exact q_unsafeStringN rfl rfl rfl | exact q_cap_slice rfl rfl))) | refine cod_seq ?_ | refine cod_region ?_ | refine run_nil ?_ | refine pst_then ?_ | (apply cod_cond_t; (focus rfl)) | (apply cod_cond_f; (focus rfl)) | refine cod_block ?_ | refine cod_skip ?_ | (apply run_osg 7; (focus rfl); (focus exact wt); (focus rfl); (focus (exact opr_call_ls (by rfl) (W0 ..) (by rfl) lpa)); (rintro _ _ ⟨rfl, rfl⟩)) | (apply run_osg 7; (focus rfl); (focus exact wt); (focus rfl); (focus (exact opr_call_ls (by rfl) (BW ..) (by rfl) lpa)); (rintro _ _ ⟨rfl, rfl⟩))))
          (repeat' (first | (apply run_qg 1; (focus rfl); (focus exact wt); (focus rfl); (focus (exact qg1))) | (apply run_osg 7; (focus rfl); (focus exact wt); (focus rfl); (focus (exact opr_call_ls (by rfl) (SC ..) (by rfl) lpa)); (rintro _ _ ⟨rfl, rfl⟩))))
          rw [at_mod ht hlt]
          (repeat' (first | (apply run_qg 3; (focus rfl); (focus exact wt); (focus rfl); (focus (first | exact qg3 | exact qs3)))))
          (refine run_on wt (opr_store_ownm (f := fS) (q' := str (bodyC 0 (zsF lb) (laF bs) i)) rfl rfl rfl rfl (by exact pka) rfl (by omega) (by intro _; rfl) (by assumption) rfl rfl (by rfl)) ?_; rintro _ _ ⟨rfl, rfl⟩)
          rw [cellsC_set _ ht hlt]
          (repeat' (first | (apply run_qg 1; (focus rfl); (focus exact wt); (focus rfl); (focus (exact qg1))) | (apply run_qg 2; (focus rfl); (focus exact wt); (focus rfl); (focus (first | exact qg2 | exact qs2))) | (apply run_qg 3; (focus rfl); (focus exact wt); (focus rfl); (focus (first | exact qg3 | exact qs3))) | (apply run_qg 5; (focus rfl); (focus exact wt); (focus rfl); (focus (exact qg5))) | refine cod_seq ?_ | refine cod_region ?_ | refine run_nil ?_ | refine pst_then ?_ | (apply run_osg 10; (focus rfl); (focus exact wt); (focus rfl); (focus (exact opr_buildSlice rfl rfl rfl (by exact blda) rfl rfl (by decide) rfl)); (rintro _ _ ⟨q, rfl, rfl⟩))))
          refine run_os wt rfl (by first | exact opr_append_lit0 (fSE) [(((atP n t i : Nat) : Int), z, false, p, c)] rfl rfl rfl (by exact pka) (by rfl) (by rfl) (by intro _; rfl) (by (first | exact one_fS | exact one_fI | exact one_fB | exact one_fP | exact one_fIIS | exact one_fIIIS | exact one_fII | exact one_fSI | exact one_fIIU | exact one_fY | exact one_fBl | exact one_fT | exact one_fE | assumption)) rfl (by simp only [List.length_cons, List.length_nil]; omega) (by (unfold maxLen); simp only [List.length_cons, List.length_nil]; omega) | exact opr_append_lit (fSE) [(((atP n t i : Nat) : Int), z, false, p, c)] rfl rfl rfl (by exact pka) (by exact pka) (by rfl) (by rfl) (by first | rfl | omega) (by intro _; rfl) (by (first | exact one_fS | exact one_fI | exact one_fB | exact one_fP | exact one_fIIS | exact one_fIIIS | exact one_fII | exact one_fSI | exact one_fIIU | exact one_fY | exact one_fBl | exact one_fT | exact one_fE | assumption)) rfl (by simp only [List.length_cons, List.length_nil]; omega) (by (unfold maxLen); simp only [List.length_cons, List.length_nil]; omega)) ?_
          rintro _ _ ⟨q5, c5, rfl, rfl⟩
          (repeat' (first | (apply run_qg 1; (focus rfl); (focus exact wt); (focus rfl); (focus (exact qg1))) | (apply run_qg 4; (focus rfl); (focus exact wt); (focus rfl); (focus (first | exact qg4 | exact qs4))) | refine cod_seq ?_ | refine cod_region ?_ | refine run_nil ?_ | refine pst_then ?_ | (apply cod_cond_f; (focus rfl)) | refine cod_skip ?_ | refine pst_block ?_))
          refine pst_again ((i + 1, q5, c5, ws ++ [(((atP n t i : Nat) : Int), z, false, p, c)], wh)) ?_ (FSub.of (by (try dsimp only); exact fsa)) (by (try dsimp only); exact hsa) ?_
          · refine ⟨⟨hlt, by dsimp only; rw [List.length_append, List.length_singleton, hwl], by rw [hww]; exact hwh⟩, fun j hj => ?_, fun j r hj => ?_⟩
            · rcases (by omega : j < i ∨ j = i) with h | rfl
              · exact hE j h
              · rw [hzi]; exact hEz
            · dsimp only at hj
              rcases Nat.lt_trichotomy j ws.length with g | g | g
              · rw [List.getElem?_append_left g] at hj
                exact hws j r hj
              · subst g
                rw [List.getElem?_append_right (Nat.le_refl _), Nat.sub_self] at hj
                cases hj
                rw [hwl]
                exact ⟨rfl, hzi.symm, hli.symm, hmem⟩
              · rw [List.getElem?_eq_none (by simp; omega)] at hj
                cases hj
          · dsimp only; omega
        · have hSz : writeS z false = [] := by unfold writeS; rw [if_neg hEz]
          rw [hSz] at BW
          generalize writeE z = ez at BW hEz
          (repeat' (first | (apply run_qg 1; (focus rfl); (focus exact wt); (focus rfl); (focus (exact qg1))) | (apply run_qg 2; (focus rfl); (focus exact wt); (focus rfl); (focus (first | exact qg2 | exact qs2))) | (apply run_qg 3; (focus rfl); (focus exact wt); (focus rfl); (focus (first | exact qg3 | exact qs3))) | (apply run_qg 4; (focus rfl); (focus exact wt); (focus rfl); (focus (first | exact qg4 | exact qs4))) | (apply run_qg 6; (focus rfl); (focus exact wt); (focus rfl); (focus (first | exact qs6 | exact qg6 | exact q_max rfl rfl rfl | exact q_sliceData rfl rfl (by omega) | exact q_sliceDataN rfl rfl | exact q_unsafeStringN rfl rfl rfl | exact q_cap_slice rfl rfl))) | refine cod_seq ?_ | refine cod_region ?_ | refine run_nil ?_ | refine pst_then ?_ | (apply cod_cond_t; (focus rfl)) | refine cod_block ?_ | refine cod_ret ?_ | refine cod_skip ?_ | refine pst_block_ret ?_ | refine pst_then_ret ?_ | (apply run_osg 7; (focus rfl); (focus exact wt); (focus rfl); (focus (exact opr_call_ls (by rfl) (W0 ..) (by rfl) lpa)); (rintro _ _ ⟨rfl, rfl⟩)) | (apply run_osg 7; (focus rfl); (focus exact wt); (focus rfl); (focus (exact opr_call_ls (by rfl) (BW ..) (by rfl) lpa)); (rintro _ _ ⟨rfl, rfl⟩))))
          exact pst_fin rfl (by exact resa) _ (⟨rfl, rfl⟩) (by exact hsa)
    · have hli : laF bs i = false := by unfold laF; rw [List.getD_eq_getElem?_getD, List.getElem?_eq_none hlb]; rfl
      have BW := write_any p c z false hzl
      by_cases hEz : writeE z = 0
      · have hSz : writeS z false = writeB z false := by unfold writeS; rw [if_pos hEz]
        rw [hSz, hEz] at BW
        have hsE := sealE_ok (after := 0 + 1 + (i : Int)) (b := false) (by omega) hEz
        have SC := seal_any 1 (0 + 1 + (i : Int)) (writeB z false)
        have hSS : sealS 1 (0 + 1 + (i : Int)) (writeB z false) = bodyC 0 (zsF lb) (laF bs) i := by unfold sealS bodyC; rw [if_pos hsE, hzi, hli]
        rw [hSS, hsE] at SC
        have hww : wholeW (laF bs) (i + 1) = wholeW (laF bs) i := by rw [wholeW, hli]; rfl
        (repeat' (first | (apply run_qg 1; (focus rfl); (focus exact wt); (focus rfl); (focus (exact qg1))) | (apply run_qg 2; (focus rfl); (focus exact wt); (focus rfl); (focus (first | exact qg2 | exact qs2))) | (apply run_qg 3; (focus rfl); (focus exact wt); (focus rfl); (focus (first | exact qg3 | exact qs3))) | (apply run_qg 4; (focus rfl); (focus exact wt); (focus rfl); (focus (first | exact qg4 | exact qs4))) | (apply run_qg 6; (focus rfl); (focus exact wt); (focus rfl); (focus (first | exact qs6 | exact qg6 | exact q_max rfl rfl rfl | exact q_sliceData rfl rfl (by omega) | exact q_sliceDataN rfl rfl | exact q_unsafeStringN rfl rfl rfl | exact q_cap_slice rfl rfl))) | refine cod_seq ?_ | refine cod_region ?_ | refine run_nil ?_ | refine pst_then ?_ | (apply cod_cond_t; (focus rfl)) | (apply cod_cond_f; (focus rfl)) | refine cod_block ?_ | refine cod_skip ?_ | (apply run_offs; (focus rfl); (focus rfl); (focus rfl)) | (apply run_osg 7; (focus rfl); (focus exact wt); (focus rfl); (focus (exact opr_call_ls (by rfl) (W0 ..) (by rfl) lpa)); (rintro _ _ ⟨rfl, rfl⟩)) | (apply run_osg 7; (focus rfl); (focus exact wt); (focus rfl); (focus (exact opr_call_ls (by rfl) (BW ..) (by rfl) lpa)); (rintro _ _ ⟨rfl, rfl⟩))))
        (repeat' (first | (apply run_qg 1; (focus rfl); (focus exact wt); (focus rfl); (focus (exact qg1))) | (apply run_osg 7; (focus rfl); (focus exact wt); (focus rfl); (focus (exact opr_call_ls (by rfl) (SC ..) (by rfl) lpa)); (rintro _ _ ⟨rfl, rfl⟩))))
        rw [at_mod ht hlt]
        (repeat' (first | (apply run_qg 3; (focus rfl); (focus exact wt); (focus rfl); (focus (first | exact qg3 | exact qs3)))))
        (refine run_on wt (opr_store_ownm (f := fS) (q' := str (bodyC 0 (zsF lb) (laF bs) i)) rfl rfl rfl rfl (by exact pka) rfl (by omega) (by intro _; rfl) (by assumption) rfl rfl (by rfl)) ?_; rintro _ _ ⟨rfl, rfl⟩)
        rw [cellsC_set _ ht hlt]
        (repeat' (first | (apply run_qg 1; (focus rfl); (focus exact wt); (focus rfl); (focus (exact qg1))) | (apply run_qg 2; (focus rfl); (focus exact wt); (focus rfl); (focus (first | exact qg2 | exact qs2))) | (apply run_qg 3; (focus rfl); (focus exact wt); (focus rfl); (focus (first | exact qg3 | exact qs3))) | (apply run_qg 5; (focus rfl); (focus exact wt); (focus rfl); (focus (exact qg5))) | refine cod_seq ?_ | refine cod_region ?_ | refine run_nil ?_ | refine pst_then ?_ | (apply run_osg 10; (focus rfl); (focus exact wt); (focus rfl); (focus (exact opr_buildSlice rfl rfl rfl (by exact blda) rfl rfl (by decide) rfl)); (rintro _ _ ⟨q, rfl, rfl⟩))))
        refine run_os wt rfl (by first | exact opr_append_lit0 (fSE) [(((atP n t i : Nat) : Int), z, false, p, c)] rfl rfl rfl (by exact pka) (by rfl) (by rfl) (by intro _; rfl) (by (first | exact one_fS | exact one_fI | exact one_fB | exact one_fP | exact one_fIIS | exact one_fIIIS | exact one_fII | exact one_fSI | exact one_fIIU | exact one_fY | exact one_fBl | exact one_fT | exact one_fE | assumption)) rfl (by simp only [List.length_cons, List.length_nil]; omega) (by (unfold maxLen); simp only [List.length_cons, List.length_nil]; omega) | exact opr_append_lit (fSE) [(((atP n t i : Nat) : Int), z, false, p, c)] rfl rfl rfl (by exact pka) (by exact pka) (by rfl) (by rfl) (by first | rfl | omega) (by intro _; rfl) (by (first | exact one_fS | exact one_fI | exact one_fB | exact one_fP | exact one_fIIS | exact one_fIIIS | exact one_fII | exact one_fSI | exact one_fIIU | exact one_fY | exact one_fBl | exact one_fT | exact one_fE | assumption)) rfl (by simp only [List.length_cons, List.length_nil]; omega) (by (unfold maxLen); simp only [List.length_cons, List.length_nil]; omega)) ?_
        rintro _ _ ⟨q5, c5, rfl, rfl⟩
        (repeat' (first | (apply run_qg 1; (focus rfl); (focus exact wt); (focus rfl); (focus (exact qg1))) | (apply run_qg 4; (focus rfl); (focus exact wt); (focus rfl); (focus (first | exact qg4 | exact qs4))) | refine cod_seq ?_ | refine cod_region ?_ | refine run_nil ?_ | refine pst_then ?_ | (apply cod_cond_f; (focus rfl)) | refine cod_skip ?_ | refine pst_block ?_))
        refine pst_again ((i + 1, q5, c5, ws ++ [(((atP n t i : Nat) : Int), z, false, p, c)], wh)) ?_ (FSub.of (by (try dsimp only); exact fsa)) (by (try dsimp only); exact hsa) ?_
        · refine ⟨⟨hlt, by dsimp only; rw [List.length_append, List.length_singleton, hwl], by rw [hww]; exact hwh⟩, fun j hj => ?_, fun j r hj => ?_⟩
          · rcases (by omega : j < i ∨ j = i) with h | rfl
            · exact hE j h
            · rw [hzi]; exact hEz
          · dsimp only at hj
            rcases Nat.lt_trichotomy j ws.length with g | g | g
            · rw [List.getElem?_append_left g] at hj
              exact hws j r hj
            · subst g
              rw [List.getElem?_append_right (Nat.le_refl _), Nat.sub_self] at hj
              cases hj
              rw [hwl]
              exact ⟨rfl, hzi.symm, hli.symm, hmem⟩
            · rw [List.getElem?_eq_none (by simp; omega)] at hj
              cases hj
        · dsimp only; omega
      · have hSz : writeS z false = [] := by unfold writeS; rw [if_neg hEz]
        rw [hSz] at BW
        generalize writeE z = ez at BW hEz
        (repeat' (first | (apply run_qg 1; (focus rfl); (focus exact wt); (focus rfl); (focus (exact qg1))) | (apply run_qg 2; (focus rfl); (focus exact wt); (focus rfl); (focus (first | exact qg2 | exact qs2))) | (apply run_qg 3; (focus rfl); (focus exact wt); (focus rfl); (focus (first | exact qg3 | exact qs3))) | (apply run_qg 4; (focus rfl); (focus exact wt); (focus rfl); (focus (first | exact qg4 | exact qs4))) | (apply run_qg 6; (focus rfl); (focus exact wt); (focus rfl); (focus (first | exact qs6 | exact qg6 | exact q_max rfl rfl rfl | exact q_sliceData rfl rfl (by omega) | exact q_sliceDataN rfl rfl | exact q_unsafeStringN rfl rfl rfl | exact q_cap_slice rfl rfl))) | refine cod_seq ?_ | refine cod_region ?_ | refine run_nil ?_ | refine pst_then ?_ | (apply cod_cond_t; (focus rfl)) | refine cod_block ?_ | refine cod_ret ?_ | refine cod_skip ?_ | refine pst_block_ret ?_ | refine pst_then_ret ?_ | (apply run_offs; (focus rfl); (focus rfl); (focus rfl)) | (apply run_osg 7; (focus rfl); (focus exact wt); (focus rfl); (focus (exact opr_call_ls (by rfl) (W0 ..) (by rfl) lpa)); (rintro _ _ ⟨rfl, rfl⟩)) | (apply run_osg 7; (focus rfl); (focus exact wt); (focus rfl); (focus (exact opr_call_ls (by rfl) (BW ..) (by rfl) lpa)); (rintro _ _ ⟨rfl, rfl⟩))))
        exact pst_fin rfl (by exact resa) _ (⟨rfl, rfl⟩) (by exact hsa)
  · have hin : i = n := by omega
    subst hin
    have RO := fun q c => run_order q c (la := laF bs) ht hn100 (A := 0) (by omega) hE
    have hww0 := wholeW_le (laF bs) i
    have hcl := cellsC_len i t (bodyC 0 (zsF lb) (laF bs)) i
    (repeat' (first | (apply run_qg 1; (focus rfl); (focus exact wt); (focus rfl); (focus (exact qg1))) | (apply run_qg 4; (focus rfl); (focus exact wt); (focus rfl); (focus (first | exact qg4 | exact qs4))) | (apply run_qg 5; (focus rfl); (focus exact wt); (focus rfl); (focus (exact qg5))) | refine cod_seq ?_ | refine cod_region ?_ | refine run_nil ?_ | refine pst_then ?_ | (apply cod_cond_f; (focus rfl)) | refine cod_exit ?_ | refine pst_block_here ?_ | refine pst_then_exit ?_))
    (refine run_os wt rfl (opr_call_l rfl (RO _ _) rfl (by exact lpa)) ?_; rintro _ _ ⟨_, ⟨tab, outs, q, c, ⟨f1, f2, f3⟩, rfl, rfl⟩, rfl⟩; dsimp only [List.cons_append, List.nil_append])
    rw [← hwh]
    rw [← hwh] at hww0
    (repeat' (first | (apply run_qg 1; (focus rfl); (focus exact wt); (focus rfl); (focus (exact qg1))) | (apply run_qg 4; (focus rfl); (focus exact wt); (focus rfl); (focus (first | exact qg4 | exact qs4))) | refine cod_seq ?_ | refine cod_region ?_ | refine run_nil ?_ | refine pst_then ?_))
    refine run_ownc (q := qw) (m := ws.length) (c := cw) (e := 49) (sz := 3) (xs := flat fSE ws) pka fun hmc => ?_
    refine run_qs wt rfl (q_slice_cap (m := wh) rfl rfl rfl rfl (by omega)) ?_
    skip
    have EQ := equalF_any q qw wh cw wh ((outs.take wh).map toSE) (ws.take wh) (tab.map lotL) (lb.map lotB) (by rw [List.length_map, List.length_take]; omega) (by rw [List.length_take]; omega) (by omega) (fun k r s h1 h2 => by
      rw [List.getElem?_map] at h1
      obtain ⟨r0, h3, rfl⟩ := Option.map_eq_some_iff.1 h1
      rw [List.getElem?_take] at h3 h2
      split at h3
      · rename_i hk
        rw [if_pos hk] at h2
        obtain ⟨_, g1, g2, g3⟩ := f2 k r0 h3
        obtain ⟨k1, k2, k3, _⟩ := hws k s h2
        exact ⟨by rw [k1, ← g1]; rfl, by rw [k2, ← g2]; rfl, by rw [k3, ← g3]; rfl⟩
      · cases h3) (fun r hr => by
      obtain ⟨r0, h3, rfl⟩ := List.mem_map.1 hr
      obtain ⟨k, hk⟩ := List.mem_iff_getElem?.1 (List.mem_of_mem_take h3)
      have hkn := (List.getElem?_eq_some_iff.1 hk).1
      obtain ⟨_, _, g2, _⟩ := f2 k r0 hk
      show r0.2.2.1.length ≤ maxLen
      rw [g2]
      obtain ⟨y, hy⟩ : ∃ y, lb[k]? = some y := ⟨_, List.getElem?_eq_getElem (by omega)⟩
      unfold zsF
      rw [List.getD_eq_getElem?_getD, hy]
      exact hz y (List.mem_of_getElem? hy)) (fun r hr => by
      obtain ⟨r0, h3, rfl⟩ := List.mem_map.1 hr
      exact List.mem_map_of_mem (f3 r0 (List.mem_of_mem_take h3))) (fun s hs => by
      obtain ⟨k, hk⟩ := List.mem_iff_getElem?.1 (List.mem_of_mem_take hs)
      exact (hws k s hk).2.2.2)
    have eL : ((outs.take wh).map toSE).map fSE = (outs.take wh).map fEn := by rw [List.map_map]; rfl
    rw [eL] at EQ
    refine run_os wt rfl (opr_call_ls rfl EQ rfl (Lp.view (sl_excl _ _ _) (Lp.view (sl_excl _ _ _) (Lp.view rfl (Lp.view rfl Lp.nil (View.same pka rfl)) (view_bundle (vv := fun r : LRow => .slice r.2.2.2.2.1 r.2.2.1.length r.2.2.2.2.2) (xs := fun r : LRow => r.2.2.1) (f := fBl) (rw := rowL) (tab := tab) pka (fun r => rfl) (fun _ => rfl) tab (fun r h => h))) (view_head (ys := ws) pka (fun _ => rfl) rfl (by omega))) (view_cut (ys := outs) pka (fun _ => rfl) rfl (by omega)))) ?_
    rintro _ _ ⟨rfl, rfl⟩
    (repeat' (first | (apply run_qg 1; (focus rfl); (focus exact wt); (focus rfl); (focus (exact qg1))) | refine run_nil ?_ | refine pst_then ?_ | refine cod_ret ?_))
    exact pst_fin rfl (by exact resa) _ (⟨rfl, rfl⟩) (by exact hsa)
end Go.Proofs.Ytkkgmgffkjeklaa.lawScanOrder
