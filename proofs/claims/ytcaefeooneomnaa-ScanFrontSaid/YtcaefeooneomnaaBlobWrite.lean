/-
  blob.Write: the walk.
-/
import Derived.Test.YtcaefeooneomnaaBlob
namespace Go.Proofs.Ytcaefeooneomnaa.blob
open Go.RowKit kit sl Go.Proofs.Ytcaefeooneomnaa.fix Go.Proofs.Ytcaefeooneomnaa.fixl Go.Proofs.Ytcaefeooneomnaa.put Go.Proofs.Ytcaefeooneomnaa.get
set_option linter.unusedVariables false
attribute [local irreducible] box own sl old bptr eptr Qt Opr Run Cod Pst Drn
set_option maxRecDepth 100000 in
set_option maxHeartbeats 8000000 in
theorem write_any (q : Option Addr) (c : Nat) (l : List Blob) (last : Bool) (hl : l.length ≤ maxLen) : Ct Try.prog 10 [.slice q l.length c, .bool last] [sl 4 (.slice q l.length c) (l.map fBl)] fun v H' => v = .tuple #[.string (str (writeS l last)), .int .i64 (writeE l)] ∧ H' = [] := by
  unfold maxLen at hl
  by_cases h40 : 40 < (l.length : Int)
  · have hE : writeE l = 2 := by unfold writeE; rw [if_pos h40]
    have hS : writeS l last = [] := by unfold writeS; rw [if_neg (by rw [hE]; decide)]
    rw [hE, hS]
    (refine spec_enter Try.func10 Try.ntmps10 rfl rfl fun Fr => ?_; dsimp only [List.cons_append, List.nil_append, ini, Nat.reduceAdd])
    (repeat' (first | (apply run_qg 1; (focus rfl); (focus exact wt); (focus rfl); (focus (exact qg1))) | (apply run_qg 4; (focus rfl); (focus exact wt); (focus rfl); (focus (first | exact qg4 | exact qs4))) | (apply run_qg 6; (focus rfl); (focus exact wt); (focus rfl); (focus (first | exact qs6 | exact qg6 | exact q_max rfl rfl rfl | exact q_sliceData rfl rfl (by omega) | exact q_sliceDataN rfl rfl | exact q_unsafeStringN rfl rfl rfl | exact q_cap_slice rfl rfl))) | refine cod_seq ?_ | refine cod_region ?_ | refine run_nil ?_ | refine pst_then ?_ | (apply cod_cond_t; (focus rfl)) | refine cod_ret ?_ | refine pst_then_ret ?_))
    exact pst_fin rfl (by exact resa) _ (⟨rfl, rfl⟩) (by exact hsa)
  · have F1 := fix_ct (l.length : Int) 1 (by decide) (by omega)
    rw [Int.toNat_natCast] at F1
    have f1 := fixB_len l.length 1
    obtain ⟨hd, hhd⟩ : ∃ hd, hd = headB last l.length := ⟨_, rfl⟩
    have hdl : hd.length = 2 := by rw [hhd]; unfold headB; rw [List.length_append, f1]; cases last <;> rfl
    have hW : writeB l last = hd ++ bodyB l := by rw [hhd]; rfl
    (refine spec_enter Try.func10 Try.ntmps10 rfl rfl fun Fr => ?_; dsimp only [List.cons_append, List.nil_append, ini, Nat.reduceAdd])
    cases last with
    | false =>
      have h0 : [0] ++ fixB l.length 1 = hd := hhd.symm
      generalize fixB l.length 1 = f at *
      clear hhd
      (repeat' (first | (apply run_qg 1; (focus rfl); (focus exact wt); (focus rfl); (focus (exact qg1))) | (apply run_qg 4; (focus rfl); (focus exact wt); (focus rfl); (focus (first | exact qg4 | exact qs4))) | (apply run_qg 6; (focus rfl); (focus exact wt); (focus rfl); (focus (first | exact qs6 | exact qg6 | exact q_max rfl rfl rfl | exact q_sliceData rfl rfl (by omega) | exact q_sliceDataN rfl rfl | exact q_unsafeStringN rfl rfl rfl | exact q_cap_slice rfl rfl))) | (apply run_qg 11; (focus rfl); (focus exact wt); (focus rfl); (focus (exact qs11))) | refine cod_seq ?_ | refine cod_region ?_ | refine run_nil ?_ | refine pst_then ?_ | (apply cod_cond_f; (focus rfl)) | refine cod_block ?_ | refine cod_skip ?_ | (apply run_osg 7; (focus rfl); (focus exact wt); (focus rfl); (focus (exact opr_call_ls (by rfl) (F1 ..) (by rfl) lpa)); (rintro _ _ ⟨rfl, rfl⟩))))
      rw [h0]
      (refine cod_loop_rw (σ := Nat × List UInt8) (fun s => s.1 ≤ l.length ∧ firstE (l.take s.1) = 0 ∧ s.2 = hd ++ bodyB (l.take s.1) ∧ s.2.length ≤ 2 + 614 * s.1) (fun s => [(22, .int .i64 (s.1 : Int)), (6, .string (str s.2))]) (fun s => []) _ (fun s => l.length - s.1) ((0, hd)) (by exact ⟨Nat.zero_le _, rfl, by simp [bodyB], by show hd.length ≤ _; omega⟩) (by exact fsa) (by (first | exact HSub.of_picks_rest (by exact pca))) (fun ⟨k, o⟩ ⟨hk, hf, ho, hol⟩ => ?_); dsimp only [List.cons_append, List.nil_append])
      dsimp only at hk hf ho hol
      rcases get_or l k with ⟨p, hp, hlt⟩ | hge
      · have CK := check_p p
        by_cases hz : blobE p = 0
        · have hb := blobE_zero hz
          rw [hz] at CK
          have hf2 := firstE_next hp hf hz
          have hb2 := bodyB_next hp
          have ob : oneB p = [UInt8.ofNat p.1.toNat, UInt8.ofNat p.2.1.toNat, UInt8.ofNat p.2.2.1.toNat] ++ putB p.2.2.2.length ++ p.2.2.2 := rfl
          have P1 := put_ct (p.2.2.2.length : Int) (by omega)
          rw [Int.toNat_natCast] at P1
          have pl := putB_len p.2.2.2.length
          generalize putB p.2.2.2.length = pb at *
          rw [ob] at hb2
          clear hf hz ob
          (repeat' (first | (apply run_qg 1; (focus rfl); (focus exact wt); (focus rfl); (focus (exact qg1))) | (apply run_qg 2; (focus rfl); (focus exact wt); (focus rfl); (focus (first | exact qg2 | exact qs2))) | (apply run_qg 3; (focus rfl); (focus exact wt); (focus rfl); (focus (first | exact qg3 | exact qs3))) | (apply run_qg 4; (focus rfl); (focus exact wt); (focus rfl); (focus (first | exact qg4 | exact qs4))) | refine cod_seq ?_ | refine cod_region ?_ | refine run_nil ?_ | refine pst_then ?_ | (apply cod_cond_t; (focus rfl)) | (apply cod_cond_f; (focus rfl)) | refine cod_block ?_ | refine cod_skip ?_ | refine pst_block ?_ | (apply run_osg 8; (focus rfl); (focus exact wt); (focus rfl); (focus (exact opr_new rfl)); (rintro _ _ ⟨b, rfl, rfl⟩)) | (apply run_ong 9; (focus rfl); (focus exact wt); (focus (exact opr_store_box_agg rfl rfl rfl (by exact pka) rfl rfl rfl (by exact spla))); (rintro _ _ ⟨rfl, rfl⟩)) | (apply run_osg 7; (focus rfl); (focus exact wt); (focus rfl); (focus (exact opr_call_ls (by rfl) (CK ..) (by rfl) lpa)); (rintro _ _ ⟨rfl, rfl⟩)) | (apply cod_drawn_k; (focus kernel_rfl); (focus (simp only [List.length_cons, List.length_nil, Nat.reduceAdd]; rfl))) | (apply drnK_take 1; (focus rfl); (focus rfl); (focus exact wt); (focus (decide +kernel)); (focus exact hsq); (focus rfl); (focus (exact qg1))) | (apply drnK_take 2; (focus rfl); (focus rfl); (focus exact wt); (focus (decide +kernel)); (focus exact hsq); (focus rfl); (focus (first | exact qg2 | exact qs2))) | (apply drnK_take 3; (focus rfl); (focus rfl); (focus exact wt); (focus (decide +kernel)); (focus exact hsq); (focus rfl); (focus (first | exact qg3 | exact qs3))) | (apply drnK_take 4; (focus rfl); (focus rfl); (focus exact wt); (focus (decide +kernel)); (focus exact hsq); (focus rfl); (focus (first | exact qg4 | exact qs4))) | (apply drnK_take 6; (focus rfl); (focus rfl); (focus exact wt); (focus (decide +kernel)); (focus exact hsq); (focus rfl); (focus (first | exact qs6 | exact qg6 | exact q_max rfl rfl rfl | exact q_sliceData rfl rfl (by omega) | exact q_sliceDataN rfl rfl | exact q_unsafeStringN rfl rfl rfl | exact q_cap_slice rfl rfl))) | (apply drnK_take 11; (focus rfl); (focus rfl); (focus exact wt); (focus (decide +kernel)); (focus exact hsq); (focus rfl); (focus (exact qs11))) | (apply drnK_ones 10; (focus rfl); (focus rfl); (focus (decide +kernel)); (focus exact wt); (focus rfl); (focus (exact opr_buildSlice rfl rfl rfl (by exact blda) rfl rfl (by decide) rfl)); (rintro _ _ ⟨q, rfl, rfl⟩; refine ⟨(by first | exact fun h => absurd h (by decide) | exact fun _ => hsq), ?_⟩; (try refine drnK_more hsq ?_))) | (apply drnK_end; (focus (decide +kernel))) | (apply drnK_done; (focus (decide +kernel))) | (apply drnK_ones 7; (focus rfl); (focus rfl); (focus (decide +kernel)); (focus exact wt); (focus rfl); (focus (exact opr_call_ls (by rfl) (P1 ..) (by rfl) lpa)); (rintro _ _ ⟨rfl, rfl⟩; refine ⟨(by first | exact fun h => absurd h (by decide) | exact fun _ => hsq), ?_⟩)) | (refine drnK_at 10 ?_; refine drnK_two 16 (by decide +kernel) ?_ ?_) | (apply drnI_s 1 _; (focus rfl); (focus exact wt); (focus rfl); (focus (exact opr_buildSlice rfl rfl rfl (by exact blda) rfl rfl (by decide) rfl)); (rintro _ _ ⟨q, rfl, rfl⟩; refine ⟨(by first | exact fun h => absurd h (by decide) | exact fun _ => hsq), ?_⟩); (try refine drnK_more hsq ?_)) | (apply drnI_s 1 _; (focus rfl); (focus exact wt); (focus rfl); (focus (exact opr_call_ls (by rfl) (P1 ..) (by rfl) lpa)); (rintro _ _ ⟨rfl, rfl⟩; refine ⟨(by first | exact fun h => absurd h (by decide) | exact fun _ => hsq), ?_⟩)) | (apply drnK_skip; (focus rfl))))
          all_goals
            refine pst_again ((k + 1, o ++ ([UInt8.ofNat p.1.toNat, UInt8.ofNat p.2.1.toNat, UInt8.ofNat p.2.2.1.toNat] ++ pb ++ p.2.2.2))) ?_ (FSub.of (by (try dsimp only); exact fsa)) (by (try dsimp only); exact hsa) ?_
            · refine ⟨hlt, hf2, ?_, ?_⟩
              · show o ++ _ = hd ++ bodyB (l.take (k + 1))
                rw [hb2, ho, List.append_assoc]
              · show (o ++ _).length ≤ 2 + 614 * (k + 1)
                simp only [List.length_append, List.length_cons, List.length_nil]
                omega
            · show l.length - (k + 1) < l.length - k
              omega
        · have hE : writeE l = blobE p := by unfold writeE; rw [if_neg h40, firstE_at hp hf hz, if_pos hz]
          have hS : writeS l false = [] := by unfold writeS; rw [if_neg (by rw [hE]; exact hz)]
          rw [hE, hS]
          clear hE hS ho hf
          generalize blobE p = z at *
          (repeat' (first | (apply run_qg 1; (focus rfl); (focus exact wt); (focus rfl); (focus (exact qg1))) | (apply run_qg 2; (focus rfl); (focus exact wt); (focus rfl); (focus (first | exact qg2 | exact qs2))) | (apply run_qg 3; (focus rfl); (focus exact wt); (focus rfl); (focus (first | exact qg3 | exact qs3))) | (apply run_qg 4; (focus rfl); (focus exact wt); (focus rfl); (focus (first | exact qg4 | exact qs4))) | refine cod_seq ?_ | refine cod_region ?_ | refine run_nil ?_ | refine pst_then ?_ | (apply cod_cond_t; (focus rfl)) | refine cod_block ?_ | refine cod_ret ?_ | refine cod_skip ?_ | refine pst_block_ret ?_ | refine pst_then_ret ?_ | (apply run_osg 8; (focus rfl); (focus exact wt); (focus rfl); (focus (exact opr_new rfl)); (rintro _ _ ⟨b, rfl, rfl⟩)) | (apply run_ong 9; (focus rfl); (focus exact wt); (focus (exact opr_store_box_agg rfl rfl rfl (by exact pka) rfl rfl rfl (by exact spla))); (rintro _ _ ⟨rfl, rfl⟩)) | (apply run_osg 7; (focus rfl); (focus exact wt); (focus rfl); (focus (exact opr_call_ls (by rfl) (CK ..) (by rfl) lpa)); (rintro _ _ ⟨rfl, rfl⟩))))
          exact pst_fin rfl (by exact resa) _ (⟨rfl, rfl⟩) (by exact hsa)
      · rw [List.take_of_length_le hge] at hf ho
        by_cases hbig : 1000 < (2 + (bodyB l).length : Int)
        · have hE : writeE l = 2 := by unfold writeE; rw [if_neg h40, if_neg (by simp [hf]), if_pos hbig]
          have hS : writeS l false = [] := by unfold writeS; rw [if_neg (by rw [hE]; decide)]
          have hol2 : o.length = 2 + (bodyB l).length := by rw [ho, List.length_append, hdl]
          rw [hE, hS]
          clear hE hS ho hf
          (repeat' (first | (apply run_qg 1; (focus rfl); (focus exact wt); (focus rfl); (focus (exact qg1))) | (apply run_qg 4; (focus rfl); (focus exact wt); (focus rfl); (focus (first | exact qg4 | exact qs4))) | (apply run_qg 6; (focus rfl); (focus exact wt); (focus rfl); (focus (first | exact qs6 | exact qg6 | exact q_max rfl rfl rfl | exact q_sliceData rfl rfl (by omega) | exact q_sliceDataN rfl rfl | exact q_unsafeStringN rfl rfl rfl | exact q_cap_slice rfl rfl))) | refine cod_seq ?_ | refine cod_region ?_ | refine run_nil ?_ | refine pst_then ?_ | (apply cod_cond_t; (focus rfl)) | (apply cod_cond_f; (focus rfl)) | refine cod_exit ?_ | refine cod_ret ?_ | refine pst_block_here ?_ | refine pst_then_exit ?_ | refine pst_then_ret ?_))
          exact pst_fin rfl (by exact resa) _ (⟨rfl, rfl⟩) (by exact hsa)
        · have hE : writeE l = 0 := by unfold writeE; rw [if_neg h40, if_neg (by simp [hf]), if_neg hbig]
          have hS : writeS l false = o := by unfold writeS; rw [if_pos hE, hW, ho]
          have hol2 : o.length = 2 + (bodyB l).length := by rw [ho, List.length_append, hdl]
          rw [hE, hS]
          clear hE hS ho hf hW
          (repeat' (first | (apply run_qg 1; (focus rfl); (focus exact wt); (focus rfl); (focus (exact qg1))) | (apply run_qg 4; (focus rfl); (focus exact wt); (focus rfl); (focus (first | exact qg4 | exact qs4))) | (apply run_qg 6; (focus rfl); (focus exact wt); (focus rfl); (focus (first | exact qs6 | exact qg6 | exact q_max rfl rfl rfl | exact q_sliceData rfl rfl (by omega) | exact q_sliceDataN rfl rfl | exact q_unsafeStringN rfl rfl rfl | exact q_cap_slice rfl rfl))) | refine cod_seq ?_ | refine cod_region ?_ | refine run_nil ?_ | refine pst_then ?_ | (apply cod_cond_f; (focus rfl)) | refine cod_exit ?_ | refine cod_ret ?_ | refine cod_skip ?_ | refine pst_block_here ?_ | refine pst_then_exit ?_))
          exact pst_fin rfl (by exact resa) _ (⟨rfl, rfl⟩) (by exact hsa)
    | true =>
      have h0 : [1] ++ fixB l.length 1 = hd := hhd.symm
      generalize fixB l.length 1 = f at *
      clear hhd
      (repeat' (first | (apply run_qg 1; (focus rfl); (focus exact wt); (focus rfl); (focus (exact qg1))) | (apply run_qg 4; (focus rfl); (focus exact wt); (focus rfl); (focus (first | exact qg4 | exact qs4))) | (apply run_qg 6; (focus rfl); (focus exact wt); (focus rfl); (focus (first | exact qs6 | exact qg6 | exact q_max rfl rfl rfl | exact q_sliceData rfl rfl (by omega) | exact q_sliceDataN rfl rfl | exact q_unsafeStringN rfl rfl rfl | exact q_cap_slice rfl rfl))) | (apply run_qg 11; (focus rfl); (focus exact wt); (focus rfl); (focus (exact qs11))) | refine cod_seq ?_ | refine cod_region ?_ | refine run_nil ?_ | refine pst_then ?_ | (apply cod_cond_t; (focus rfl)) | (apply cod_cond_f; (focus rfl)) | refine cod_block ?_ | refine cod_skip ?_ | (apply run_osg 7; (focus rfl); (focus exact wt); (focus rfl); (focus (exact opr_call_ls (by rfl) (F1 ..) (by rfl) lpa)); (rintro _ _ ⟨rfl, rfl⟩))))
      rw [h0]
      (refine cod_loop_rw (σ := Nat × List UInt8) (fun s => s.1 ≤ l.length ∧ firstE (l.take s.1) = 0 ∧ s.2 = hd ++ bodyB (l.take s.1) ∧ s.2.length ≤ 2 + 614 * s.1) (fun s => [(22, .int .i64 (s.1 : Int)), (6, .string (str s.2))]) (fun s => []) _ (fun s => l.length - s.1) ((0, hd)) (by exact ⟨Nat.zero_le _, rfl, by simp [bodyB], by show hd.length ≤ _; omega⟩) (by exact fsa) (by (first | exact HSub.of_picks_rest (by exact pca))) (fun ⟨k, o⟩ ⟨hk, hf, ho, hol⟩ => ?_); dsimp only [List.cons_append, List.nil_append])
      dsimp only at hk hf ho hol
      rcases get_or l k with ⟨p, hp, hlt⟩ | hge
      · have CK := check_p p
        by_cases hz : blobE p = 0
        · have hb := blobE_zero hz
          rw [hz] at CK
          have hf2 := firstE_next hp hf hz
          have hb2 := bodyB_next hp
          have ob : oneB p = [UInt8.ofNat p.1.toNat, UInt8.ofNat p.2.1.toNat, UInt8.ofNat p.2.2.1.toNat] ++ putB p.2.2.2.length ++ p.2.2.2 := rfl
          have P1 := put_ct (p.2.2.2.length : Int) (by omega)
          rw [Int.toNat_natCast] at P1
          have pl := putB_len p.2.2.2.length
          generalize putB p.2.2.2.length = pb at *
          rw [ob] at hb2
          clear hf hz ob
          (repeat' (first | (apply run_qg 1; (focus rfl); (focus exact wt); (focus rfl); (focus (exact qg1))) | (apply run_qg 2; (focus rfl); (focus exact wt); (focus rfl); (focus (first | exact qg2 | exact qs2))) | (apply run_qg 3; (focus rfl); (focus exact wt); (focus rfl); (focus (first | exact qg3 | exact qs3))) | (apply run_qg 4; (focus rfl); (focus exact wt); (focus rfl); (focus (first | exact qg4 | exact qs4))) | refine cod_seq ?_ | refine cod_region ?_ | refine run_nil ?_ | refine pst_then ?_ | (apply cod_cond_t; (focus rfl)) | (apply cod_cond_f; (focus rfl)) | refine cod_block ?_ | refine cod_skip ?_ | refine pst_block ?_ | (apply run_osg 8; (focus rfl); (focus exact wt); (focus rfl); (focus (exact opr_new rfl)); (rintro _ _ ⟨b, rfl, rfl⟩)) | (apply run_ong 9; (focus rfl); (focus exact wt); (focus (exact opr_store_box_agg rfl rfl rfl (by exact pka) rfl rfl rfl (by exact spla))); (rintro _ _ ⟨rfl, rfl⟩)) | (apply run_osg 7; (focus rfl); (focus exact wt); (focus rfl); (focus (exact opr_call_ls (by rfl) (CK ..) (by rfl) lpa)); (rintro _ _ ⟨rfl, rfl⟩)) | (apply cod_drawn_k; (focus kernel_rfl); (focus (simp only [List.length_cons, List.length_nil, Nat.reduceAdd]; rfl))) | (apply drnK_take 1; (focus rfl); (focus rfl); (focus exact wt); (focus (decide +kernel)); (focus exact hsq); (focus rfl); (focus (exact qg1))) | (apply drnK_take 2; (focus rfl); (focus rfl); (focus exact wt); (focus (decide +kernel)); (focus exact hsq); (focus rfl); (focus (first | exact qg2 | exact qs2))) | (apply drnK_take 3; (focus rfl); (focus rfl); (focus exact wt); (focus (decide +kernel)); (focus exact hsq); (focus rfl); (focus (first | exact qg3 | exact qs3))) | (apply drnK_take 4; (focus rfl); (focus rfl); (focus exact wt); (focus (decide +kernel)); (focus exact hsq); (focus rfl); (focus (first | exact qg4 | exact qs4))) | (apply drnK_take 6; (focus rfl); (focus rfl); (focus exact wt); (focus (decide +kernel)); (focus exact hsq); (focus rfl); (focus (first | exact qs6 | exact qg6 | exact q_max rfl rfl rfl | exact q_sliceData rfl rfl (by omega) | exact q_sliceDataN rfl rfl | exact q_unsafeStringN rfl rfl rfl | exact q_cap_slice rfl rfl))) | (apply drnK_take 11; (focus rfl); (focus rfl); (focus exact wt); (focus (decide +kernel)); (focus exact hsq); (focus rfl); (focus (exact qs11))) | (apply drnK_ones 10; (focus rfl); (focus rfl); (focus (decide +kernel)); (focus exact wt); (focus rfl); (focus (exact opr_buildSlice rfl rfl rfl (by exact blda) rfl rfl (by decide) rfl)); (rintro _ _ ⟨q, rfl, rfl⟩; refine ⟨(by first | exact fun h => absurd h (by decide) | exact fun _ => hsq), ?_⟩; (try refine drnK_more hsq ?_))) | (apply drnK_end; (focus (decide +kernel))) | (apply drnK_done; (focus (decide +kernel))) | (apply drnK_ones 7; (focus rfl); (focus rfl); (focus (decide +kernel)); (focus exact wt); (focus rfl); (focus (exact opr_call_ls (by rfl) (P1 ..) (by rfl) lpa)); (rintro _ _ ⟨rfl, rfl⟩; refine ⟨(by first | exact fun h => absurd h (by decide) | exact fun _ => hsq), ?_⟩)) | (refine drnK_at 10 ?_; refine drnK_two 16 (by decide +kernel) ?_ ?_) | (apply drnI_s 1 _; (focus rfl); (focus exact wt); (focus rfl); (focus (exact opr_buildSlice rfl rfl rfl (by exact blda) rfl rfl (by decide) rfl)); (rintro _ _ ⟨q, rfl, rfl⟩; refine ⟨(by first | exact fun h => absurd h (by decide) | exact fun _ => hsq), ?_⟩); (try refine drnK_more hsq ?_)) | (apply drnI_s 1 _; (focus rfl); (focus exact wt); (focus rfl); (focus (exact opr_call_ls (by rfl) (P1 ..) (by rfl) lpa)); (rintro _ _ ⟨rfl, rfl⟩; refine ⟨(by first | exact fun h => absurd h (by decide) | exact fun _ => hsq), ?_⟩)) | (apply drnK_skip; (focus rfl))))
          all_goals
            refine pst_again ((k + 1, o ++ ([UInt8.ofNat p.1.toNat, UInt8.ofNat p.2.1.toNat, UInt8.ofNat p.2.2.1.toNat] ++ pb ++ p.2.2.2))) ?_ (FSub.of (by (try dsimp only); exact fsa)) (by (try dsimp only); exact hsa) ?_
            · refine ⟨hlt, hf2, ?_, ?_⟩
              · show o ++ _ = hd ++ bodyB (l.take (k + 1))
                rw [hb2, ho, List.append_assoc]
              · show (o ++ _).length ≤ 2 + 614 * (k + 1)
                simp only [List.length_append, List.length_cons, List.length_nil]
                omega
            · show l.length - (k + 1) < l.length - k
              omega
        · have hE : writeE l = blobE p := by unfold writeE; rw [if_neg h40, firstE_at hp hf hz, if_pos hz]
          have hS : writeS l true = [] := by unfold writeS; rw [if_neg (by rw [hE]; exact hz)]
          rw [hE, hS]
          clear hE hS ho hf
          generalize blobE p = z at *
          (repeat' (first | (apply run_qg 1; (focus rfl); (focus exact wt); (focus rfl); (focus (exact qg1))) | (apply run_qg 2; (focus rfl); (focus exact wt); (focus rfl); (focus (first | exact qg2 | exact qs2))) | (apply run_qg 3; (focus rfl); (focus exact wt); (focus rfl); (focus (first | exact qg3 | exact qs3))) | (apply run_qg 4; (focus rfl); (focus exact wt); (focus rfl); (focus (first | exact qg4 | exact qs4))) | refine cod_seq ?_ | refine cod_region ?_ | refine run_nil ?_ | refine pst_then ?_ | (apply cod_cond_t; (focus rfl)) | refine cod_block ?_ | refine cod_ret ?_ | refine cod_skip ?_ | refine pst_block_ret ?_ | refine pst_then_ret ?_ | (apply run_osg 8; (focus rfl); (focus exact wt); (focus rfl); (focus (exact opr_new rfl)); (rintro _ _ ⟨b, rfl, rfl⟩)) | (apply run_ong 9; (focus rfl); (focus exact wt); (focus (exact opr_store_box_agg rfl rfl rfl (by exact pka) rfl rfl rfl (by exact spla))); (rintro _ _ ⟨rfl, rfl⟩)) | (apply run_osg 7; (focus rfl); (focus exact wt); (focus rfl); (focus (exact opr_call_ls (by rfl) (CK ..) (by rfl) lpa)); (rintro _ _ ⟨rfl, rfl⟩))))
          exact pst_fin rfl (by exact resa) _ (⟨rfl, rfl⟩) (by exact hsa)
      · rw [List.take_of_length_le hge] at hf ho
        by_cases hbig : 1000 < (2 + (bodyB l).length : Int)
        · have hE : writeE l = 2 := by unfold writeE; rw [if_neg h40, if_neg (by simp [hf]), if_pos hbig]
          have hS : writeS l true = [] := by unfold writeS; rw [if_neg (by rw [hE]; decide)]
          have hol2 : o.length = 2 + (bodyB l).length := by rw [ho, List.length_append, hdl]
          rw [hE, hS]
          clear hE hS ho hf
          (repeat' (first | (apply run_qg 1; (focus rfl); (focus exact wt); (focus rfl); (focus (exact qg1))) | (apply run_qg 4; (focus rfl); (focus exact wt); (focus rfl); (focus (first | exact qg4 | exact qs4))) | (apply run_qg 6; (focus rfl); (focus exact wt); (focus rfl); (focus (first | exact qs6 | exact qg6 | exact q_max rfl rfl rfl | exact q_sliceData rfl rfl (by omega) | exact q_sliceDataN rfl rfl | exact q_unsafeStringN rfl rfl rfl | exact q_cap_slice rfl rfl))) | refine cod_seq ?_ | refine cod_region ?_ | refine run_nil ?_ | refine pst_then ?_ | (apply cod_cond_t; (focus rfl)) | (apply cod_cond_f; (focus rfl)) | refine cod_exit ?_ | refine cod_ret ?_ | refine pst_block_here ?_ | refine pst_then_exit ?_ | refine pst_then_ret ?_))
          exact pst_fin rfl (by exact resa) _ (⟨rfl, rfl⟩) (by exact hsa)
        · have hE : writeE l = 0 := by unfold writeE; rw [if_neg h40, if_neg (by simp [hf]), if_neg hbig]
          have hS : writeS l true = o := by unfold writeS; rw [if_pos hE, hW, ho]
          have hol2 : o.length = 2 + (bodyB l).length := by rw [ho, List.length_append, hdl]
          rw [hE, hS]
          clear hE hS ho hf hW
          (repeat' (first | (apply run_qg 1; (focus rfl); (focus exact wt); (focus rfl); (focus (exact qg1))) | (apply run_qg 4; (focus rfl); (focus exact wt); (focus rfl); (focus (first | exact qg4 | exact qs4))) | (apply run_qg 6; (focus rfl); (focus exact wt); (focus rfl); (focus (first | exact qs6 | exact qg6 | exact q_max rfl rfl rfl | exact q_sliceData rfl rfl (by omega) | exact q_sliceDataN rfl rfl | exact q_unsafeStringN rfl rfl rfl | exact q_cap_slice rfl rfl))) | refine cod_seq ?_ | refine cod_region ?_ | refine run_nil ?_ | refine pst_then ?_ | (apply cod_cond_f; (focus rfl)) | refine cod_exit ?_ | refine cod_ret ?_ | refine cod_skip ?_ | refine pst_block_here ?_ | refine pst_then_exit ?_))
          exact pst_fin rfl (by exact resa) _ (⟨rfl, rfl⟩) (by exact hsa)
end Go.Proofs.Ytcaefeooneomnaa.blob
