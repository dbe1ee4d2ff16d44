/-
  CodeBack: the walk, case C (printed by gen_codeback.py).
-/
import Derived.Test.YtnejhldagkennaaCodeBackH
namespace Go.Proofs.Ytnejhldagkennaa.lawCodeBack
open Go.RowKit kit sl Go.Proofs.Ytnejhldagkennaa.code Go.Proofs.Ytnejhldagkennaa.lens Go.Proofs.Ytnejhldagkennaa.bits Go.Proofs.Ytnejhldagkennaa.pieces
set_option linter.unusedVariables false
attribute [local irreducible] box own sl old bptr eptr Qt Opr Run Cod Pst Drn
set_option maxRecDepth 100000 in
set_option maxHeartbeats 8000000 in
theorem law_C (q qs qa : Option Addr) (c cs ca : Nat) (l signs : List Int) (ah : List (Int × Int)) (hg : ∀ x ∈ l, (Lit.int .i64 x).wf = true) (hn : l.length ≤ 1000000000000000) (hs : signs.length ≤ 1000000000000000) (hcs : signs.length ≤ cs) (hga : ∀ p ∈ ah, (Lit.int .u64 p.1).wf = true ∧ (Lit.int .i64 p.2).wf = true) (hna : ah.length ≤ 8796093022207) {ps : List (Int × Int)} (hwv : writeV l (signs.take (min signs.length 1024)) = (ps, 0)) (hk : packErr ah ≠ 0) :
    Ct Try.prog 7 [.slice q l.length c, .slice qs signs.length cs, .slice qa ah.length ca] [sl 1 (.slice q l.length c) (l.map fI), sl 1 (.slice qs signs.length cs) (signs.map fI), sl 2 (.slice qa ah.length ca) (ah.map fPc)] fun v H' => v = .bool true ∧ H' = [] := by
  obtain ⟨w0, hw0, hw0l, hp0, hb0, hg0⟩ := way0
  have W0 := fun q qs c cs => write_is (q := q) (qs := qs) (c := c) (cs := cs) (m := 3) (l := [1, 2, 2]) (t := [1, 0, 2]) (by decide) (by decide) rfl (by decide) hw0
  have P0 := fun q c => pack_ct q c w0 hg0 (by omega) hp0 (by rw [if_pos hp0, hb0])
  clear hp0 hb0 hg0 hw0
  obtain ⟨m, hmm⟩ : ∃ m, m = min signs.length 1024 := ⟨_, rfl⟩
  rw [← hmm] at hwv
  have hml : m ≤ signs.length := by omega
  have hm1024 : m ≤ 1024 := by omega
  have htl : (signs.take m).length = m := by rw [List.length_take]; omega
  have K0 := write_is (q := q) (qs := qs) (c := c) (cs := cs) hg hn htl hm1024 hwv
  have hw := wrote hwv
  have htl2 : (signs.take m).length ≤ 1024 := by omega
  obtain ⟨e1, he1⟩ : ∃ e1, packErr ah = e1 := ⟨_, rfl⟩
  obtain ⟨b1, hb1⟩ : ∃ b1, (if packErr ah = 0 then packB ah else []) = b1 := ⟨_, rfl⟩
  have A0 := pack_ct qa ca ah hga (by omega) he1 hb1
  have hwfp : ∀ p ∈ ps, (Lit.int .u64 p.1).wf = true ∧ (Lit.int .i64 p.2).wf = true := by
    intro p hp
    obtain ⟨a, v, ha3, hv3, he⟩ := hw.wf p hp
    have h6 : 2 ^ v ≤ 2 ^ 15 := Nat.pow_le_pow_right (by decide) hv3
    rw [he]
    simp [Lit.wf, IntKind.min, IntKind.max, IntKind.signed, IntKind.bits]
    omega
  have hpl : ps.length ≤ 1024 := by rw [hw.eq, List.length_map]; exact htl2
  rw [he1] at hk
  clear hb1 he1
  have hfe : firstErr ([] : List (Int × Int)) = 0 := rfl
  have hta : total [] ≤ 8000 := Nat.zero_le _
  have hap : ∀ p ∈ ([] : List (Int × Int)), 0 ≤ p.1 := fun p hp => absurd hp List.not_mem_nil
  obtain ⟨k1, k2, k3, k4⟩ := back_law hw htl2 hfe hta hap
  rw [htl] at k4
  have R0 := fun q c => read_is (q := q) (c := c) hg hn (by omega) k3 hm1024 k4
  have hwfa : ∀ p ∈ ([] : List (Int × Int)) ++ ps, (Lit.int .u64 p.1).wf = true ∧ (Lit.int .i64 p.2).wf = true := fun p hp => (List.mem_append.1 hp).elim (fun h => absurd h List.not_mem_nil) (hwfp p)
  have P2 := fun q c => pack_ct q c (([] : List (Int × Int)) ++ ps) hwfa (by simp only [List.length_append, List.length_nil]; omega) k1 (b := packB (([] : List (Int × Int)) ++ ps)) (by rw [if_pos k1])
  have E1 := fun qa qb ca cb => equal_m qa qb ca cb htl (by unfold maxLen; omega)
  have hps := (err_zero hw.wf).2
  have hwf2 := hw.wf
  clear hw hwv k4 hwfa hwfp
  generalize packB (([] : List (Int × Int)) ++ ps) = tx at *
  rcases Nat.lt_or_ge 1024 signs.length with h | h
  · obtain rfl : m = 1024 := by omega
    clear hmm
    (refine spec_enter Try.func7 Try.ntmps7 rfl rfl fun Fr => ?_; dsimp only [List.cons_append, List.nil_append, ini, Nat.reduceAdd])
    (repeat' (first | (apply run_qg 1; (focus rfl); (focus exact wt); (focus rfl); (focus (exact qg1))) | refine cod_seq ?_ | refine cod_region ?_ | refine run_nil ?_ | refine pst_then ?_ | (apply run_osg 10; (focus rfl); (focus exact wt); (focus rfl); (focus (exact opr_buildSlice rfl rfl rfl (by exact blda) rfl rfl (by decide) rfl)); (rintro _ _ ⟨q, rfl, rfl⟩))))
    (refine run_os wt rfl (opr_call_l rfl (W0 _ _ _ _) rfl (by exact lpa)) ?_; rintro _ _ ⟨_, ⟨q0, c0, rfl, rfl⟩, rfl⟩; dsimp only [List.cons_append, List.nil_append])
    (repeat' (first | (apply run_qg 1; (focus rfl); (focus exact wt); (focus rfl); (focus (exact qg1))) | (apply run_qg 4; (focus rfl); (focus exact wt); (focus rfl); (focus (first | exact qg4 | exact qs4))) | (apply run_qg 6; (focus rfl); (focus exact wt); (focus rfl); (focus (first | exact qs6 | exact qg6 | exact q_max rfl rfl rfl | exact q_sliceData rfl rfl (by omega) | exact q_sliceDataN rfl rfl | exact q_unsafeStringN rfl rfl rfl | exact q_cap_slice rfl rfl))) | refine cod_seq ?_ | refine cod_region ?_ | refine run_nil ?_ | refine pst_then ?_ | (apply cod_cond_t; (focus rfl)) | (apply cod_cond_f; (focus rfl)) | refine cod_skip ?_ | (apply run_osg 7; (focus rfl); (focus exact wt); (focus rfl); (focus (exact opr_call_ls (by rfl) (P0 ..) (by rfl) lpa)); (rintro _ _ ⟨rfl, rfl⟩))))
    refine run_qg 12 rfl wt rfl (q_slice_cap (m := 1024) rfl rfl rfl rfl (by omega)) ?_
    (repeat' (first | (apply run_qg 1; (focus rfl); (focus exact wt); (focus rfl); (focus (exact qg1))) | refine cod_seq ?_ | refine cod_region ?_ | refine run_nil ?_ | refine pst_then ?_))
    (refine run_os wt rfl (opr_call_l rfl (K0) rfl (by exact lpa)) ?_; rintro _ _ ⟨_, ⟨q1, c1, rfl, rfl⟩, rfl⟩; dsimp only [List.cons_append, List.nil_append])
    (repeat' (first | (apply run_qg 1; (focus rfl); (focus exact wt); (focus rfl); (focus (exact qg1))) | (apply run_qg 4; (focus rfl); (focus exact wt); (focus rfl); (focus (first | exact qg4 | exact qs4))) | refine cod_seq ?_ | refine cod_region ?_ | refine run_nil ?_ | refine pst_then ?_ | (apply cod_cond_f; (focus rfl)) | refine cod_skip ?_))
    (repeat' (first | (apply run_qg 1; (focus rfl); (focus exact wt); (focus rfl); (focus (exact qg1))) | (apply run_qg 4; (focus rfl); (focus exact wt); (focus rfl); (focus (first | exact qg4 | exact qs4))) | refine cod_seq ?_ | refine cod_region ?_ | refine run_nil ?_ | refine pst_then ?_ | (apply cod_cond_t; (focus rfl)) | (apply run_osg 10; (focus rfl); (focus exact wt); (focus rfl); (focus (exact opr_buildSlice rfl rfl rfl (by exact blda) rfl rfl (by decide) rfl)); (rintro _ _ ⟨q, rfl, rfl⟩)) | (apply run_offs; (focus rfl); (focus rfl); (focus rfl)) | (apply run_osg 7; (focus rfl); (focus exact wt); (focus rfl); (focus (exact opr_call_ls (by rfl) (A0 ..) (by rfl) lpa)); (rintro _ _ ⟨rfl, rfl⟩))))
    (refine run_os wt rfl (opr_call_l rfl (concat_ct _ _ _ _ ([] : List (Int × Int)) ps (by simp only [List.length_nil]; omega)) rfl (by exact lpa)) ?_; rintro _ _ ⟨_, ⟨q5, c5, rfl, rfl⟩, rfl⟩; dsimp only [List.cons_append, List.nil_append])
    (repeat' (first | (apply run_qg 1; (focus rfl); (focus exact wt); (focus rfl); (focus (exact qg1))) | (apply run_qg 4; (focus rfl); (focus exact wt); (focus rfl); (focus (first | exact qg4 | exact qs4))) | (apply run_qg 6; (focus rfl); (focus exact wt); (focus rfl); (focus (first | exact qs6 | exact qg6 | exact q_max rfl rfl rfl | exact q_sliceData rfl rfl (by omega) | exact q_sliceDataN rfl rfl | exact q_unsafeStringN rfl rfl rfl | exact q_cap_slice rfl rfl))) | refine cod_seq ?_ | refine cod_region ?_ | refine run_nil ?_ | refine pst_then ?_ | (apply cod_cond_f; (focus rfl)) | refine cod_block ?_ | refine cod_skip ?_ | (apply run_osg 7; (focus rfl); (focus exact wt); (focus rfl); (focus (exact opr_call_ls (by rfl) (P2 ..) (by rfl) lpa)); (rintro _ _ ⟨rfl, rfl⟩))))
    (refine cod_loop_ro (σ := Nat) (fun k => k ≤ ([] : List (Int × Int)).length) (fun k => [(83, .int .i64 (k : Int)), (14, .int .i64 ((total (([] : List (Int × Int)).take k) : Nat) : Int))]) (fun k => ([] : List (Int × Int)).length - k) (0) (by exact Nat.zero_le _) (by exact fsa) (fun k hk => ?_); dsimp only [List.cons_append, List.nil_append])
    rcases Nat.lt_or_ge k ([] : List (Int × Int)).length with hlt | hge
    · exact absurd hlt (Nat.not_lt_zero _)
    · have hkl : k = 0 := by have h9 : k ≤ 0 := hk; omega
      subst hkl
      rw [show total (List.take 0 ([] : List (Int × Int))) = total [] from rfl]
      (repeat' (first | (apply run_qg 1; (focus rfl); (focus exact wt); (focus rfl); (focus (exact qg1))) | (apply run_qg 4; (focus rfl); (focus exact wt); (focus rfl); (focus (first | exact qg4 | exact qs4))) | (apply run_qg 6; (focus rfl); (focus exact wt); (focus rfl); (focus (first | exact qs6 | exact qg6 | exact q_max rfl rfl rfl | exact q_sliceData rfl rfl (by omega) | exact q_sliceDataN rfl rfl | exact q_unsafeStringN rfl rfl rfl | exact q_cap_slice rfl rfl))) | refine cod_seq ?_ | refine cod_region ?_ | refine run_nil ?_ | refine pst_then ?_ | (apply cod_cond_f; (focus rfl)) | refine cod_block ?_ | refine cod_exit ?_ | refine pst_block_here ?_ | refine pst_then_exit ?_))
      (refine cod_loop_ro (σ := Nat) (fun k => k ≤ ps.length) (fun k => [(94, .int .i64 (k : Int)), (15, .int .i64 ((total (ps.take k) : Nat) : Int))]) (fun k => ps.length - k) (0) (by exact Nat.zero_le _) (by exact fsa) (fun k2 hk2 => ?_); dsimp only [List.cons_append, List.nil_append])
      rcases Nat.lt_or_ge k2 ps.length with hlt2 | hge2
      · obtain ⟨p, hp⟩ : ∃ p, ps[k2]? = some p := ⟨_, List.getElem?_eq_getElem hlt2⟩
        obtain ⟨a, v, hv1, hv2, rfl⟩ := hwf2 p (List.mem_of_getElem? hp)
        have htn := total_next hp
        have htk := total_take_le ps k2
        have hsum : ((total (ps.take k2) : Nat) : Int) + (v : Int) = ((total (ps.take (k2 + 1)) : Nat) : Int) := by rw [htn]; simp
        (repeat' (first | (apply run_qg 1; (focus rfl); (focus exact wt); (focus rfl); (focus (exact qg1))) | (apply run_qg 2; (focus rfl); (focus exact wt); (focus rfl); (focus (first | exact qg2 | exact qs2))) | (apply run_qg 3; (focus rfl); (focus exact wt); (focus rfl); (focus (first | exact qg3 | exact qs3))) | (apply run_qg 4; (focus rfl); (focus exact wt); (focus rfl); (focus (first | exact qg4 | exact qs4))) | refine cod_seq ?_ | refine cod_region ?_ | refine run_nil ?_ | refine pst_then ?_ | (apply cod_cond_t; (focus rfl)) | refine cod_block ?_ | refine cod_skip ?_ | refine pst_block ?_ | (apply run_osg 8; (focus rfl); (focus exact wt); (focus rfl); (focus (exact opr_new rfl)); (rintro _ _ ⟨b, rfl, rfl⟩)) | (apply run_ong 9; (focus rfl); (focus exact wt); (focus (exact opr_store_box_agg rfl rfl rfl (by exact pka) rfl rfl rfl (by exact spla))); (rintro _ _ ⟨rfl, rfl⟩))))
        rw [hsum]
        refine pst_again (k2 + 1) ?_ (FSub.of (by (try dsimp only); exact fsa)) (by (try dsimp only); exact hsa) ?_
        · omega
        · omega
      · have hkl : k2 = ps.length := by omega
        subst hkl
        rw [List.take_length]
        (repeat' (first | (apply run_qg 1; (focus rfl); (focus exact wt); (focus rfl); (focus (exact qg1))) | (apply run_qg 4; (focus rfl); (focus exact wt); (focus rfl); (focus (first | exact qg4 | exact qs4))) | (apply run_qg 6; (focus rfl); (focus exact wt); (focus rfl); (focus (first | exact qs6 | exact qg6 | exact q_max rfl rfl rfl | exact q_sliceData rfl rfl (by omega) | exact q_sliceDataN rfl rfl | exact q_unsafeStringN rfl rfl rfl | exact q_cap_slice rfl rfl))) | refine cod_seq ?_ | refine cod_region ?_ | refine run_nil ?_ | refine pst_then ?_ | (apply cod_cond_f; (focus rfl)) | refine cod_exit ?_ | refine pst_block_here ?_ | refine pst_then_exit ?_))
        (refine run_os wt rfl (opr_call_l rfl (R0 _ _) rfl (by exact lpa)) ?_; rintro _ _ ⟨_, ⟨q6, c6, rfl, rfl⟩, rfl⟩; dsimp only [List.cons_append, List.nil_append])
        (repeat' (first | (apply run_qg 1; (focus rfl); (focus exact wt); (focus rfl); (focus (exact qg1))) | (apply run_qg 4; (focus rfl); (focus exact wt); (focus rfl); (focus (first | exact qg4 | exact qs4))) | refine cod_seq ?_ | refine cod_region ?_ | refine run_nil ?_ | refine pst_then ?_ | refine cod_ret ?_ | (apply run_osg 7; (focus rfl); (focus exact wt); (focus rfl); (focus (exact opr_call_ls (by rfl) (E1 ..) (by rfl) lpa)); (rintro _ _ ⟨rfl, rfl⟩))))
        exact pst_fin rfl (by exact resa) _ (⟨rfl, rfl⟩) (by exact hsa)
  · obtain rfl : m = signs.length := by omega
    clear hmm
    (refine spec_enter Try.func7 Try.ntmps7 rfl rfl fun Fr => ?_; dsimp only [List.cons_append, List.nil_append, ini, Nat.reduceAdd])
    (repeat' (first | (apply run_qg 1; (focus rfl); (focus exact wt); (focus rfl); (focus (exact qg1))) | refine cod_seq ?_ | refine cod_region ?_ | refine run_nil ?_ | refine pst_then ?_ | (apply run_osg 10; (focus rfl); (focus exact wt); (focus rfl); (focus (exact opr_buildSlice rfl rfl rfl (by exact blda) rfl rfl (by decide) rfl)); (rintro _ _ ⟨q, rfl, rfl⟩))))
    (refine run_os wt rfl (opr_call_l rfl (W0 _ _ _ _) rfl (by exact lpa)) ?_; rintro _ _ ⟨_, ⟨q0, c0, rfl, rfl⟩, rfl⟩; dsimp only [List.cons_append, List.nil_append])
    (repeat' (first | (apply run_qg 1; (focus rfl); (focus exact wt); (focus rfl); (focus (exact qg1))) | (apply run_qg 4; (focus rfl); (focus exact wt); (focus rfl); (focus (first | exact qg4 | exact qs4))) | (apply run_qg 6; (focus rfl); (focus exact wt); (focus rfl); (focus (first | exact qs6 | exact qg6 | exact q_max rfl rfl rfl | exact q_sliceData rfl rfl (by omega) | exact q_sliceDataN rfl rfl | exact q_unsafeStringN rfl rfl rfl | exact q_cap_slice rfl rfl))) | refine cod_seq ?_ | refine cod_region ?_ | refine run_nil ?_ | refine pst_then ?_ | (apply cod_cond_f; (focus rfl)) | refine cod_skip ?_ | (apply run_osg 7; (focus rfl); (focus exact wt); (focus rfl); (focus (exact opr_call_ls (by rfl) (P0 ..) (by rfl) lpa)); (rintro _ _ ⟨rfl, rfl⟩))))
    (refine run_os wt rfl (opr_call_l rfl (K0) rfl (by exact lpa)) ?_; rintro _ _ ⟨_, ⟨q1, c1, rfl, rfl⟩, rfl⟩; dsimp only [List.cons_append, List.nil_append])
    (repeat' (first | (apply run_qg 1; (focus rfl); (focus exact wt); (focus rfl); (focus (exact qg1))) | (apply run_qg 4; (focus rfl); (focus exact wt); (focus rfl); (focus (first | exact qg4 | exact qs4))) | refine cod_seq ?_ | refine cod_region ?_ | refine run_nil ?_ | refine pst_then ?_ | (apply cod_cond_f; (focus rfl)) | refine cod_skip ?_))
    (repeat' (first | (apply run_qg 1; (focus rfl); (focus exact wt); (focus rfl); (focus (exact qg1))) | (apply run_qg 4; (focus rfl); (focus exact wt); (focus rfl); (focus (first | exact qg4 | exact qs4))) | refine cod_seq ?_ | refine cod_region ?_ | refine run_nil ?_ | refine pst_then ?_ | (apply cod_cond_t; (focus rfl)) | (apply run_osg 10; (focus rfl); (focus exact wt); (focus rfl); (focus (exact opr_buildSlice rfl rfl rfl (by exact blda) rfl rfl (by decide) rfl)); (rintro _ _ ⟨q, rfl, rfl⟩)) | (apply run_offs; (focus rfl); (focus rfl); (focus rfl)) | (apply run_osg 7; (focus rfl); (focus exact wt); (focus rfl); (focus (exact opr_call_ls (by rfl) (A0 ..) (by rfl) lpa)); (rintro _ _ ⟨rfl, rfl⟩))))
    (refine run_os wt rfl (opr_call_l rfl (concat_ct _ _ _ _ ([] : List (Int × Int)) ps (by simp only [List.length_nil]; omega)) rfl (by exact lpa)) ?_; rintro _ _ ⟨_, ⟨q5, c5, rfl, rfl⟩, rfl⟩; dsimp only [List.cons_append, List.nil_append])
    (repeat' (first | (apply run_qg 1; (focus rfl); (focus exact wt); (focus rfl); (focus (exact qg1))) | (apply run_qg 4; (focus rfl); (focus exact wt); (focus rfl); (focus (first | exact qg4 | exact qs4))) | (apply run_qg 6; (focus rfl); (focus exact wt); (focus rfl); (focus (first | exact qs6 | exact qg6 | exact q_max rfl rfl rfl | exact q_sliceData rfl rfl (by omega) | exact q_sliceDataN rfl rfl | exact q_unsafeStringN rfl rfl rfl | exact q_cap_slice rfl rfl))) | refine cod_seq ?_ | refine cod_region ?_ | refine run_nil ?_ | refine pst_then ?_ | (apply cod_cond_f; (focus rfl)) | refine cod_block ?_ | refine cod_skip ?_ | (apply run_osg 7; (focus rfl); (focus exact wt); (focus rfl); (focus (exact opr_call_ls (by rfl) (P2 ..) (by rfl) lpa)); (rintro _ _ ⟨rfl, rfl⟩))))
    (refine cod_loop_ro (σ := Nat) (fun k => k ≤ ([] : List (Int × Int)).length) (fun k => [(83, .int .i64 (k : Int)), (14, .int .i64 ((total (([] : List (Int × Int)).take k) : Nat) : Int))]) (fun k => ([] : List (Int × Int)).length - k) (0) (by exact Nat.zero_le _) (by exact fsa) (fun k hk => ?_); dsimp only [List.cons_append, List.nil_append])
    rcases Nat.lt_or_ge k ([] : List (Int × Int)).length with hlt | hge
    · exact absurd hlt (Nat.not_lt_zero _)
    · have hkl : k = 0 := by have h9 : k ≤ 0 := hk; omega
      subst hkl
      rw [show total (List.take 0 ([] : List (Int × Int))) = total [] from rfl]
      (repeat' (first | (apply run_qg 1; (focus rfl); (focus exact wt); (focus rfl); (focus (exact qg1))) | (apply run_qg 4; (focus rfl); (focus exact wt); (focus rfl); (focus (first | exact qg4 | exact qs4))) | (apply run_qg 6; (focus rfl); (focus exact wt); (focus rfl); (focus (first | exact qs6 | exact qg6 | exact q_max rfl rfl rfl | exact q_sliceData rfl rfl (by omega) | exact q_sliceDataN rfl rfl | exact q_unsafeStringN rfl rfl rfl | exact q_cap_slice rfl rfl))) | refine cod_seq ?_ | refine cod_region ?_ | refine run_nil ?_ | refine pst_then ?_ | (apply cod_cond_f; (focus rfl)) | refine cod_block ?_ | refine cod_exit ?_ | refine pst_block_here ?_ | refine pst_then_exit ?_))
      (refine cod_loop_ro (σ := Nat) (fun k => k ≤ ps.length) (fun k => [(94, .int .i64 (k : Int)), (15, .int .i64 ((total (ps.take k) : Nat) : Int))]) (fun k => ps.length - k) (0) (by exact Nat.zero_le _) (by exact fsa) (fun k2 hk2 => ?_); dsimp only [List.cons_append, List.nil_append])
      rcases Nat.lt_or_ge k2 ps.length with hlt2 | hge2
      · obtain ⟨p, hp⟩ : ∃ p, ps[k2]? = some p := ⟨_, List.getElem?_eq_getElem hlt2⟩
        obtain ⟨a, v, hv1, hv2, rfl⟩ := hwf2 p (List.mem_of_getElem? hp)
        have htn := total_next hp
        have htk := total_take_le ps k2
        have hsum : ((total (ps.take k2) : Nat) : Int) + (v : Int) = ((total (ps.take (k2 + 1)) : Nat) : Int) := by rw [htn]; simp
        (repeat' (first | (apply run_qg 1; (focus rfl); (focus exact wt); (focus rfl); (focus (exact qg1))) | (apply run_qg 2; (focus rfl); (focus exact wt); (focus rfl); (focus (first | exact qg2 | exact qs2))) | (apply run_qg 3; (focus rfl); (focus exact wt); (focus rfl); (focus (first | exact qg3 | exact qs3))) | (apply run_qg 4; (focus rfl); (focus exact wt); (focus rfl); (focus (first | exact qg4 | exact qs4))) | refine cod_seq ?_ | refine cod_region ?_ | refine run_nil ?_ | refine pst_then ?_ | (apply cod_cond_t; (focus rfl)) | refine cod_block ?_ | refine cod_skip ?_ | refine pst_block ?_ | (apply run_osg 8; (focus rfl); (focus exact wt); (focus rfl); (focus (exact opr_new rfl)); (rintro _ _ ⟨b, rfl, rfl⟩)) | (apply run_ong 9; (focus rfl); (focus exact wt); (focus (exact opr_store_box_agg rfl rfl rfl (by exact pka) rfl rfl rfl (by exact spla))); (rintro _ _ ⟨rfl, rfl⟩))))
        rw [hsum]
        refine pst_again (k2 + 1) ?_ (FSub.of (by (try dsimp only); exact fsa)) (by (try dsimp only); exact hsa) ?_
        · omega
        · omega
      · have hkl : k2 = ps.length := by omega
        subst hkl
        rw [List.take_length]
        (repeat' (first | (apply run_qg 1; (focus rfl); (focus exact wt); (focus rfl); (focus (exact qg1))) | (apply run_qg 4; (focus rfl); (focus exact wt); (focus rfl); (focus (first | exact qg4 | exact qs4))) | (apply run_qg 6; (focus rfl); (focus exact wt); (focus rfl); (focus (first | exact qs6 | exact qg6 | exact q_max rfl rfl rfl | exact q_sliceData rfl rfl (by omega) | exact q_sliceDataN rfl rfl | exact q_unsafeStringN rfl rfl rfl | exact q_cap_slice rfl rfl))) | refine cod_seq ?_ | refine cod_region ?_ | refine run_nil ?_ | refine pst_then ?_ | (apply cod_cond_f; (focus rfl)) | refine cod_exit ?_ | refine pst_block_here ?_ | refine pst_then_exit ?_))
        (refine run_os wt rfl (opr_call_l rfl (R0 _ _) rfl (by exact lpa)) ?_; rintro _ _ ⟨_, ⟨q6, c6, rfl, rfl⟩, rfl⟩; dsimp only [List.cons_append, List.nil_append])
        (repeat' (first | (apply run_qg 1; (focus rfl); (focus exact wt); (focus rfl); (focus (exact qg1))) | (apply run_qg 4; (focus rfl); (focus exact wt); (focus rfl); (focus (first | exact qg4 | exact qs4))) | refine cod_seq ?_ | refine cod_region ?_ | refine run_nil ?_ | refine pst_then ?_ | refine cod_ret ?_ | (apply run_osg 7; (focus rfl); (focus exact wt); (focus rfl); (focus (exact opr_call_ls (by rfl) (E1 ..) (by rfl) lpa)); (rintro _ _ ⟨rfl, rfl⟩))))
        exact pst_fin rfl (by exact resa) _ (⟨rfl, rfl⟩) (by exact hsa)
end Go.Proofs.Ytnejhldagkennaa.lawCodeBack

