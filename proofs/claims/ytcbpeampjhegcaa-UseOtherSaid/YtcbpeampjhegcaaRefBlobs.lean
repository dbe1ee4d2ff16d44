/-
  The document's Blobs and FewestCells: the walks.
-/
import Derived.Test.YtcbpeampjhegcaaBlobSplit
import Derived.Test.YtcbpeampjhegcaaSlSub
import Derived.Test.YtcbpeampjhegcaaSlU64
namespace Go.Proofs.Ytcbpeampjhegcaa.blob
open Go.RowKit kit sl Go.Proofs.Ytcbpeampjhegcaa.fix Go.Proofs.Ytcbpeampjhegcaa.fixl Go.Proofs.Ytcbpeampjhegcaa.put Go.Proofs.Ytcbpeampjhegcaa.get
set_option linter.unusedVariables false
theorem blobE_parts {p : Blob} (h : blobE p = 0) : 0 ≤ p.2.1 ∧ p.2.1 < 48 ∧ p.2.2.2.length ≤ 600 ∧ (p.1 = 1 ∧ 0 ≤ p.2.2.1 ∧ p.2.2.1 < 8 ∨ p.1 = 2 ∧ p.2.2.1 = 0 ∨ p.1 = 3 ∧ p.2.2.1 = 0 ∧ p.2.2.2 = []) := by
  by_cases h1 : badArg p
  · rw [blobE_1 h1] at h; cases h
  · by_cases h2 : 600 < ((p.2.2.2).length : Int)
    · rw [blobE_2 h1 h2] at h; cases h
    · unfold badArg at h1
      refine ⟨by omega, by omega, by omega, ?_⟩
      have h3 : p.1 = 1 ∧ 0 ≤ p.2.2.1 ∧ p.2.2.1 < 8 ∨ p.1 = 2 ∧ p.2.2.1 = 0 ∨ p.1 = 3 ∧ p.2.2.1 = 0 ∧ (p.2.2.2).length = 0 := by omega
      rcases h3 with h3 | h3 | h3
      · exact .inl h3
      · exact .inr (.inl h3)
      · exact .inr (.inr ⟨h3.1, h3.2.1, List.eq_nil_of_length_eq_zero h3.2.2⟩)
def fits (l : List Blob) : Prop := l.length ≤ 40 ∧ (bodyB l).length ≤ 998
instance (l : List Blob) : Decidable (fits l) := by unfold fits; infer_instance
theorem bodyB_len {l : List Blob} (h : ∀ p ∈ l, blobE p = 0) : (bodyB l).length ≤ 605 * l.length := by
  induction l with
  | nil => exact Nat.zero_le _
  | cons p l ih =>
    have h1 := (oneB_bd (blobE_zero (h p List.mem_cons_self)).2.2.2.2.2.2).2
    have h2 := ih fun q hq => h q (List.mem_cons_of_mem _ hq)
    show (oneB p ++ bodyB l).length ≤ _
    rw [List.length_append, List.length_cons]; omega
attribute [local irreducible] box own sl old bptr eptr Qt Opr Run Cod Pst Drn
set_option maxRecDepth 100000 in
set_option maxHeartbeats 8000000 in
theorem rblob_any (p : Blob) (h : blobE p = 0) : Ct Try.prog 51 [.agg #[.int .i64 p.1, .int .i64 p.2.1, .int .i64 p.2.2.1, .string (str p.2.2.2)]] [] fun v H' => v = .int .i64 0 ∧ H' = [] := by
  obtain ⟨k, i, m, t⟩ := p
  obtain ⟨h1, h2, h3, h4⟩ := blobE_parts h
  clear h
  dsimp only at h1 h2 h3 h4 ⊢
  rcases h4 with ⟨rfl, h5, h6⟩ | ⟨rfl, rfl⟩ | ⟨rfl, rfl, rfl⟩
  · (refine spec_enter Try.func51 Try.ntmps51 rfl rfl fun Fr => ?_; dsimp only [List.cons_append, List.nil_append, ini, Nat.reduceAdd])
    (repeat' (first | (apply run_qg 1; (focus rfl); (focus exact wt); (focus rfl); (focus (exact qg1))) | (apply run_qg 2; (focus rfl); (focus exact wt); (focus rfl); (focus (first | exact qg2 | exact qs2))) | (apply run_qg 3; (focus rfl); (focus exact wt); (focus rfl); (focus (first | exact qg3 | exact qs3))) | (apply run_qg 4; (focus rfl); (focus exact wt); (focus rfl); (focus (first | exact qg4 | exact qs4))) | (apply run_qg 6; (focus rfl); (focus exact wt); (focus rfl); (focus (first | exact qs6 | exact qg6 | exact q_max rfl rfl rfl | exact q_sliceData rfl rfl (by omega) | exact q_sliceDataN rfl rfl | exact q_unsafeStringN rfl rfl rfl | exact q_cap_slice rfl rfl))) | refine cod_seq ?_ | refine cod_region ?_ | refine run_nil ?_ | refine pst_then ?_ | (apply cod_cond_t; (focus rfl)) | (apply cod_cond_f; (focus rfl)) | refine cod_ret ?_ | refine cod_skip ?_ | (apply run_osg 8; (focus rfl); (focus exact wt); (focus rfl); (focus (exact opr_box_agg rfl rfl)); (rintro _ _ ⟨b, rfl, rfl⟩)) | (apply run_offs; (focus rfl); (focus rfl); (focus rfl))))
    exact pst_fin rfl (by exact resa) _ (⟨rfl, rfl⟩) (by exact hsa)
  · (refine spec_enter Try.func51 Try.ntmps51 rfl rfl fun Fr => ?_; dsimp only [List.cons_append, List.nil_append, ini, Nat.reduceAdd])
    (repeat' (first | (apply run_qg 1; (focus rfl); (focus exact wt); (focus rfl); (focus (exact qg1))) | (apply run_qg 2; (focus rfl); (focus exact wt); (focus rfl); (focus (first | exact qg2 | exact qs2))) | (apply run_qg 3; (focus rfl); (focus exact wt); (focus rfl); (focus (first | exact qg3 | exact qs3))) | (apply run_qg 4; (focus rfl); (focus exact wt); (focus rfl); (focus (first | exact qg4 | exact qs4))) | (apply run_qg 6; (focus rfl); (focus exact wt); (focus rfl); (focus (first | exact qs6 | exact qg6 | exact q_max rfl rfl rfl | exact q_sliceData rfl rfl (by omega) | exact q_sliceDataN rfl rfl | exact q_unsafeStringN rfl rfl rfl | exact q_cap_slice rfl rfl))) | refine cod_seq ?_ | refine cod_region ?_ | refine run_nil ?_ | refine pst_then ?_ | (apply cod_cond_f; (focus rfl)) | refine cod_ret ?_ | refine cod_skip ?_ | (apply run_osg 8; (focus rfl); (focus exact wt); (focus rfl); (focus (exact opr_box_agg rfl rfl)); (rintro _ _ ⟨b, rfl, rfl⟩)) | (apply run_offs; (focus rfl); (focus rfl); (focus rfl))))
    exact pst_fin rfl (by exact resa) _ (⟨rfl, rfl⟩) (by exact hsa)
  · have e : (([] : List UInt8) == []) = true := rfl
    (refine spec_enter Try.func51 Try.ntmps51 rfl rfl fun Fr => ?_; dsimp only [List.cons_append, List.nil_append, ini, Nat.reduceAdd])
    (repeat' (first | (apply run_qg 1; (focus rfl); (focus exact wt); (focus rfl); (focus (exact qg1))) | (apply run_qg 2; (focus rfl); (focus exact wt); (focus rfl); (focus (first | exact qg2 | exact qs2))) | (apply run_qg 3; (focus rfl); (focus exact wt); (focus rfl); (focus (first | exact qg3 | exact qs3))) | (apply run_qg 4; (focus rfl); (focus exact wt); (focus rfl); (focus (first | exact qg4 | exact qs4))) | (apply run_qg 6; (focus rfl); (focus exact wt); (focus rfl); (focus (first | exact qs6 | exact qg6 | exact q_max rfl rfl rfl | exact q_sliceData rfl rfl (by omega) | exact q_sliceDataN rfl rfl | exact q_unsafeStringN rfl rfl rfl | exact q_cap_slice rfl rfl))) | refine cod_seq ?_ | refine cod_region ?_ | refine run_nil ?_ | refine pst_then ?_ | (apply cod_cond_f; (focus rfl)) | refine cod_ret ?_ | refine cod_skip ?_ | (apply run_osg 8; (focus rfl); (focus exact wt); (focus rfl); (focus (exact opr_box_agg rfl rfl)); (rintro _ _ ⟨b, rfl, rfl⟩))))
    exact pst_fin rfl (by exact resa) _ (⟨rfl, rfl⟩) (by exact hsa)
set_option maxRecDepth 100000 in
set_option maxHeartbeats 8000000 in
theorem rfix_any (n : Int) (h : 0 ≤ n ∧ n < 256) : Ct Try.prog 38 [.int .u64 n, .int .i64 1] [] fun v H' => v = .string (str [UInt8.ofNat n.toNat]) ∧ H' = [] := by
  obtain ⟨m, rfl⟩ := Int.eq_ofNat_of_zero_le h.1
  rw [Int.toNat_natCast]
  have h2 : (m : Int) < 256 := h.2
  have hm : (m : Int) % 256 = (m : Int) := by omega
  (refine spec_enter Try.func38 Try.ntmps38 rfl rfl fun Fr => ?_; dsimp only [List.cons_append, List.nil_append, ini, Nat.reduceAdd])
  (repeat' (first | (apply run_qg 1; (focus rfl); (focus exact wt); (focus rfl); (focus (exact qg1))) | (apply run_qg 4; (focus rfl); (focus exact wt); (focus rfl); (focus (first | exact qg4 | exact qs4))) | refine cod_seq ?_ | refine cod_region ?_ | refine run_nil ?_ | refine pst_then ?_ | (apply cod_cond_f; (focus rfl)) | refine cod_block ?_ | refine cod_skip ?_))
  (refine cod_loop_ro (σ := Nat × List UInt8 × Nat) (fun x => (x.1 = 0 ∧ x.2.1 = [] ∧ x.2.2 = m) ∨ (x.1 = 1 ∧ x.2.1 = [UInt8.ofNat m]) ∧ x.2.2 < 256) (fun x => [(13, .int .i64 (x.1 : Int)), (5, .string (str x.2.1)), (0, .int .u64 (x.2.2 : Int))]) (fun x => 1 - x.1) ((0, [], m)) (by exact .inl ⟨rfl, rfl, rfl⟩) (by exact fsa) (fun ⟨i, s, j⟩ hI => ?_); dsimp only [List.cons_append, List.nil_append])
  dsimp only at hI ⊢
  rcases hI with ⟨rfl, rfl, rfl⟩ | ⟨⟨rfl, rfl⟩, hj⟩
  · (repeat' (first | (apply run_qg 1; (focus rfl); (focus exact wt); (focus rfl); (focus (exact qg1))) | (apply run_qg 4; (focus rfl); (focus exact wt); (focus rfl); (focus (first | exact qg4 | exact qs4))) | refine cod_seq ?_ | refine cod_region ?_ | refine run_nil ?_ | refine pst_then ?_ | (apply cod_cond_t; (focus rfl)) | refine cod_block ?_ | refine cod_skip ?_))
    refine run_qs wt rfl (q_rem64 rfl rfl rfl (by omega)) ?_
    rw [hm]
    (repeat' (first | (apply run_qg 1; (focus rfl); (focus exact wt); (focus rfl); (focus (exact qg1))) | (apply run_qg 4; (focus rfl); (focus exact wt); (focus rfl); (focus (first | exact qg4 | exact qs4))) | (apply run_qg 11; (focus rfl); (focus exact wt); (focus rfl); (focus (exact qs11))) | refine cod_region ?_ | refine run_nil ?_ | refine pst_then ?_ | (apply run_osg 10; (focus rfl); (focus exact wt); (focus rfl); (focus (exact opr_buildSlice rfl rfl rfl (by exact blda) rfl rfl (by decide) rfl)); (rintro _ _ ⟨q, rfl, rfl⟩))))
    refine run_qs wt rfl (q_quo64 rfl rfl rfl (by omega)) ?_
    (repeat' (first | (apply run_qg 1; (focus rfl); (focus exact wt); (focus rfl); (focus (exact qg1))) | (apply run_qg 4; (focus rfl); (focus exact wt); (focus rfl); (focus (first | exact qg4 | exact qs4))) | refine cod_region ?_ | refine run_nil ?_ | refine pst_then ?_ | refine pst_block ?_))
    refine pst_again ((1, [UInt8.ofNat j], j / 256)) ?_ (FSub.of (by (try dsimp only); exact fsa)) (by (try dsimp only); exact hsa) ?_
    · exact .inr ⟨⟨rfl, rfl⟩, by dsimp only; omega⟩
    · dsimp only; omega
  · (repeat' (first | (apply run_qg 1; (focus rfl); (focus exact wt); (focus rfl); (focus (exact qg1))) | (apply run_qg 4; (focus rfl); (focus exact wt); (focus rfl); (focus (first | exact qg4 | exact qs4))) | refine cod_seq ?_ | refine cod_region ?_ | refine run_nil ?_ | refine pst_then ?_ | (apply cod_cond_f; (focus rfl)) | refine cod_exit ?_ | refine cod_ret ?_ | refine pst_block_here ?_ | refine pst_then_exit ?_))
    exact pst_fin rfl (by exact resa) _ (⟨rfl, rfl⟩) (by exact hsa)
def rputB (n : Nat) : List UInt8 := if n < 128 then [UInt8.ofNat n] else [UInt8.ofNat (128 + n % 128), UInt8.ofNat (n / 128)]
set_option maxRecDepth 100000 in
set_option maxHeartbeats 8000000 in
theorem rput_small (n : Nat) (h : n < 128) : Ct Try.prog 55 [.int .u64 (n : Int)] [] fun v H' => v = .string (str [UInt8.ofNat n]) ∧ H' = [] := by
  (refine spec_enter Try.func55 Try.ntmps55 rfl rfl fun Fr => ?_; dsimp only [List.cons_append, List.nil_append, ini, Nat.reduceAdd])
  (repeat' (first | (apply run_qg 1; (focus rfl); (focus exact wt); (focus rfl); (focus (exact qg1))) | (apply run_qg 4; (focus rfl); (focus exact wt); (focus rfl); (focus (first | exact qg4 | exact qs4))) | (apply run_qg 11; (focus rfl); (focus exact wt); (focus rfl); (focus (exact qs11))) | refine cod_seq ?_ | refine cod_region ?_ | refine run_nil ?_ | refine pst_then ?_ | (apply cod_cond_t; (focus rfl)) | refine cod_ret ?_ | refine pst_then_ret ?_ | (apply run_osg 10; (focus rfl); (focus exact wt); (focus rfl); (focus (exact opr_buildSlice rfl rfl rfl (by exact blda) rfl rfl (by decide) rfl)); (rintro _ _ ⟨q, rfl, rfl⟩))))
  exact pst_fin rfl (by exact resa) _ (⟨rfl, rfl⟩) (by exact hsa)
set_option maxRecDepth 100000 in
set_option maxHeartbeats 8000000 in
theorem rput_any (n : Nat) (h : n ≤ 600) : Ct Try.prog 55 [.int .u64 (n : Int)] [] fun v H' => v = .string (str (rputB n)) ∧ H' = [] := by
  by_cases h1 : n < 128
  · unfold rputB
    rw [if_pos h1]
    exact rput_small n h1
  · unfold rputB
    rw [if_neg h1]
    have hq : (n : Int) / 128 = ((n / 128 : Nat) : Int) := by omega
    have hr : 128 + (n : Int) % 128 = ((128 + n % 128 : Nat) : Int) := by omega
    have P0 := rput_small (n / 128) (by omega)
    rw [← hq] at P0
    have hN : (128 + (n : Int) % 128).toNat = 128 + n % 128 := by omega
    have e3 : List.map (fun z : Int => UInt8.ofNat z.toNat) [128 + (n : Int) % 128] ++ [UInt8.ofNat (n / 128)] = [UInt8.ofNat (128 + n % 128), UInt8.ofNat (n / 128)] := by
      rw [List.map_cons, hN]
      rfl
    (refine spec_enter Try.func55 Try.ntmps55 rfl rfl fun Fr => ?_; dsimp only [List.cons_append, List.nil_append, ini, Nat.reduceAdd])
    (repeat' (first | (apply run_qg 1; (focus rfl); (focus exact wt); (focus rfl); (focus (exact qg1))) | (apply run_qg 4; (focus rfl); (focus exact wt); (focus rfl); (focus (first | exact qg4 | exact qs4))) | refine cod_seq ?_ | refine cod_region ?_ | refine run_nil ?_ | refine pst_then ?_ | (apply cod_cond_f; (focus rfl)) | refine cod_skip ?_ | (apply cod_drawn_k; (focus kernel_rfl); (focus (simp only [List.length_cons, List.length_nil, Nat.reduceAdd]; rfl))) | (apply drnK_take 1; (focus rfl); (focus rfl); (focus exact wt); (focus (decide +kernel)); (focus exact hsq); (focus rfl); (focus (exact qg1))) | (apply drnK_done; (focus (decide +kernel))) | (apply drnK_skip; (focus rfl)) | (apply drnK_wrap; (focus rfl))))
    (refine drnK_at 1 ?_; refine drnK_take _ rfl rfl wt (by decide +kernel) hsq rfl (q_rem64 rfl rfl rfl (by omega)) ?_)
    (repeat' (first | (apply drnK_take 4; (focus rfl); (focus rfl); (focus exact wt); (focus (decide +kernel)); (focus exact hsq); (focus rfl); (focus (first | exact qg4 | exact qs4))) | (apply drnK_take 11; (focus rfl); (focus rfl); (focus exact wt); (focus (decide +kernel)); (focus exact hsq); (focus rfl); (focus (exact qs11))) | (apply drnK_done; (focus (decide +kernel))) | (apply drnK_skip; (focus rfl))))
    (refine drnK_at 7 ?_; refine drnK_take _ rfl rfl wt (by decide +kernel) hsq rfl (q_quo64 rfl rfl rfl (by omega)) ?_)
    (repeat' (first | refine pst_then ?_ | refine cod_ret ?_ | (apply drnK_take 1; (focus rfl); (focus rfl); (focus exact wt); (focus (decide +kernel)); (focus exact hsq); (focus rfl); (focus (exact qg1))) | (apply drnK_take 4; (focus rfl); (focus rfl); (focus exact wt); (focus (decide +kernel)); (focus exact hsq); (focus rfl); (focus (first | exact qg4 | exact qs4))) | (apply drnK_take 11; (focus rfl); (focus rfl); (focus exact wt); (focus (decide +kernel)); (focus exact hsq); (focus rfl); (focus (exact qs11))) | (apply drnK_ones 10; (focus rfl); (focus rfl); (focus (decide +kernel)); (focus exact wt); (focus rfl); (focus (exact opr_buildSlice rfl rfl rfl (by exact blda) rfl rfl (by decide) rfl)); (rintro _ _ ⟨q, rfl, rfl⟩; refine ⟨(by first | exact fun h => absurd h (by decide) | exact fun _ => hsq), ?_⟩; (try refine drnK_more hsq ?_))) | (apply drnK_end; (focus (decide +kernel))) | (apply drnK_done; (focus (decide +kernel))) | (apply drnK_ones 7; (focus rfl); (focus rfl); (focus (decide +kernel)); (focus exact wt); (focus rfl); (focus (exact opr_call_ls (by rfl) (P0 ..) (by rfl) lpa)); (rintro _ _ ⟨rfl, rfl⟩; refine ⟨(by first | exact fun h => absurd h (by decide) | exact fun _ => hsq), ?_⟩)) | (refine drnK_at 4 ?_; refine drnK_two 8 (by decide +kernel) ?_ ?_) | (apply drnI_s 1 _; (focus rfl); (focus exact wt); (focus rfl); (focus (exact opr_buildSlice rfl rfl rfl (by exact blda) rfl rfl (by decide) rfl)); (rintro _ _ ⟨q, rfl, rfl⟩; refine ⟨(by first | exact fun h => absurd h (by decide) | exact fun _ => hsq), ?_⟩); (try refine drnK_more hsq ?_)) | (apply drnI_s 1 _; (focus rfl); (focus exact wt); (focus rfl); (focus (exact opr_call_ls (by rfl) (P0 ..) (by rfl) lpa)); (rintro _ _ ⟨rfl, rfl⟩; refine ⟨(by first | exact fun h => absurd h (by decide) | exact fun _ => hsq), ?_⟩))))
    all_goals
      rw [e3]
      exact pst_fin rfl (by exact resa) _ (⟨rfl, rfl⟩) (by exact hsa)
def roneB (p : Blob) : List UInt8 := [UInt8.ofNat p.1.toNat] ++ [UInt8.ofNat p.2.1.toNat] ++ [UInt8.ofNat p.2.2.1.toNat] ++ rputB p.2.2.2.length ++ p.2.2.2
theorem roneB_len {p : Blob} (h : blobE p = 0) : (roneB p).length = (oneB p).length := by
  have h6 := (blobE_zero h).2.2.2.2.2.2
  unfold roneB rputB
  by_cases h1 : p.2.2.2.length < 128
  · rw [oneB_one h1, if_pos h1]
    simp only [List.length_append, List.length_cons, List.length_nil]
    omega
  · rw [oneB_two h1 h6, if_neg h1]
    simp only [List.length_append, List.length_cons, List.length_nil]
    omega
set_option maxRecDepth 100000 in
set_option maxHeartbeats 8000000 in
theorem rone_any (p : Blob) (h : blobE p = 0) : Ct Try.prog 52 [.agg #[.int .i64 p.1, .int .i64 p.2.1, .int .i64 p.2.2.1, .string (str p.2.2.2)]] [] fun v H' => v = .string (str (roneB p)) ∧ H' = [] := by
  have hb := blobE_zero h
  have F1 := rfix_any p.1 (by omega)
  have F2 := rfix_any p.2.1 (by omega)
  have F3 := rfix_any p.2.2.1 (by omega)
  have P1 := rput_any p.2.2.2.length (by omega)
  have hpl : (rputB p.2.2.2.length).length ≤ 2 := by unfold rputB; split <;> simp
  unfold roneB
  generalize rputB p.2.2.2.length = pb at *
  (refine spec_enter Try.func52 Try.ntmps52 rfl rfl fun Fr => ?_; dsimp only [List.cons_append, List.nil_append, ini, Nat.reduceAdd])
  (repeat' (first | (apply run_qg 1; (focus rfl); (focus exact wt); (focus rfl); (focus (exact qg1))) | refine cod_seq ?_ | refine cod_region ?_ | refine run_nil ?_ | refine pst_then ?_ | refine cod_ret ?_ | (apply run_osg 8; (focus rfl); (focus exact wt); (focus rfl); (focus (exact opr_box_agg rfl rfl)); (rintro _ _ ⟨b, rfl, rfl⟩)) | (apply cod_drawn_k; (focus kernel_rfl); (focus (simp only [List.length_cons, List.length_nil, Nat.reduceAdd]; rfl))) | (apply drnK_take 1; (focus rfl); (focus rfl); (focus exact wt); (focus (decide +kernel)); (focus exact hsq); (focus rfl); (focus (exact qg1))) | (apply drnK_take 2; (focus rfl); (focus rfl); (focus exact wt); (focus (decide +kernel)); (focus exact hsq); (focus rfl); (focus (first | exact qg2 | exact qs2))) | (apply drnK_take 3; (focus rfl); (focus rfl); (focus exact wt); (focus (decide +kernel)); (focus exact hsq); (focus rfl); (focus (first | exact qg3 | exact qs3))) | (apply drnK_take 4; (focus rfl); (focus rfl); (focus exact wt); (focus (decide +kernel)); (focus exact hsq); (focus rfl); (focus (first | exact qg4 | exact qs4))) | (apply drnK_take 6; (focus rfl); (focus rfl); (focus exact wt); (focus (decide +kernel)); (focus exact hsq); (focus rfl); (focus (first | exact qs6 | exact qg6 | exact q_max rfl rfl rfl | exact q_sliceData rfl rfl (by omega) | exact q_sliceDataN rfl rfl | exact q_unsafeStringN rfl rfl rfl | exact q_cap_slice rfl rfl))) | (apply drnK_take 11; (focus rfl); (focus rfl); (focus exact wt); (focus (decide +kernel)); (focus exact hsq); (focus rfl); (focus (exact qs11))) | (apply drnK_end; (focus (decide +kernel))) | (apply drnK_done; (focus (decide +kernel))) | (apply drnK_ones 7; (focus rfl); (focus rfl); (focus (decide +kernel)); (focus exact wt); (focus rfl); (focus (exact opr_call_ls (by rfl) (F1 ..) (by rfl) lpa)); (rintro _ _ ⟨rfl, rfl⟩; refine ⟨(by first | exact fun h => absurd h (by decide) | exact fun _ => hsq), ?_⟩)) | (apply drnK_ones 7; (focus rfl); (focus rfl); (focus (decide +kernel)); (focus exact wt); (focus rfl); (focus (exact opr_call_ls (by rfl) (F2 ..) (by rfl) lpa)); (rintro _ _ ⟨rfl, rfl⟩; refine ⟨(by first | exact fun h => absurd h (by decide) | exact fun _ => hsq), ?_⟩)) | (apply drnK_ones 7; (focus rfl); (focus rfl); (focus (decide +kernel)); (focus exact wt); (focus rfl); (focus (exact opr_call_ls (by rfl) (F3 ..) (by rfl) lpa)); (rintro _ _ ⟨rfl, rfl⟩; refine ⟨(by first | exact fun h => absurd h (by decide) | exact fun _ => hsq), ?_⟩)) | (apply drnK_ones 7; (focus rfl); (focus rfl); (focus (decide +kernel)); (focus exact wt); (focus rfl); (focus (exact opr_call_ls (by rfl) (P1 ..) (by rfl) lpa)); (rintro _ _ ⟨rfl, rfl⟩; refine ⟨(by first | exact fun h => absurd h (by decide) | exact fun _ => hsq), ?_⟩)) | (apply drnK_skip; (focus rfl)) | (apply drnK_wrap; (focus rfl))))
  exact pst_fin rfl (by exact resa) _ (⟨rfl, rfl⟩) (by exact hsa)
set_option maxRecDepth 100000 in
set_option maxHeartbeats 8000000 in
theorem rblobs_any (q : Option Addr) (c : Nat) (l : List Blob) (m : Nat) (hm : l.length = m) (hr : ∀ p ∈ l, blobE p = 0) (hml : m ≤ 1000) :
    Ct Try.prog 43 [.slice q m c, .bool false] [sl 4 (.slice q m c) (l.map fBl)] fun v H' => ∃ t, v = .tuple #[.string (str t), .int .i64 (if fits l then 0 else 2)] ∧ H' = [] := by
  subst hm
  have hbl := bodyB_len hr
  by_cases h40 : 40 < l.length
  · rw [if_neg (fun h : fits l => by have := h.1; omega)]
    (refine spec_enter Try.func43 Try.ntmps43 rfl rfl fun Fr => ?_; dsimp only [List.cons_append, List.nil_append, ini, Nat.reduceAdd])
    (repeat' (first | (apply run_qg 1; (focus rfl); (focus exact wt); (focus rfl); (focus (exact qg1))) | (apply run_qg 4; (focus rfl); (focus exact wt); (focus rfl); (focus (first | exact qg4 | exact qs4))) | (apply run_qg 6; (focus rfl); (focus exact wt); (focus rfl); (focus (first | exact qs6 | exact qg6 | exact q_max rfl rfl rfl | exact q_sliceData rfl rfl (by omega) | exact q_sliceDataN rfl rfl | exact q_unsafeStringN rfl rfl rfl | exact q_cap_slice rfl rfl))) | refine cod_seq ?_ | refine cod_region ?_ | refine run_nil ?_ | refine pst_then ?_ | (apply cod_cond_t; (focus rfl)) | refine cod_ret ?_ | refine pst_then_ret ?_))
    exact pst_fin rfl (by exact resa) _ (⟨[], rfl, rfl⟩) (by exact hsa)
  · have F1 := rfix_any (l.length : Int) (by omega)
    obtain ⟨B, hB⟩ : ∃ B, (bodyB l).length = B := ⟨_, rfl⟩
    have hif : (if fits l then (0 : Int) else 2) = if B ≤ 998 then 0 else 2 := by
      by_cases h : B ≤ 998
      · have hft : fits l := ⟨by omega, by omega⟩
        rw [if_pos h, if_pos hft]
      · rw [if_neg h, if_neg (fun h2 : fits l => h (by have := h2.2; omega))]
    rw [hif]
    (refine spec_enter Try.func43 Try.ntmps43 rfl rfl fun Fr => ?_; dsimp only [List.cons_append, List.nil_append, ini, Nat.reduceAdd])
    (repeat' (first | (apply run_qg 1; (focus rfl); (focus exact wt); (focus rfl); (focus (exact qg1))) | (apply run_qg 4; (focus rfl); (focus exact wt); (focus rfl); (focus (first | exact qg4 | exact qs4))) | (apply run_qg 6; (focus rfl); (focus exact wt); (focus rfl); (focus (first | exact qs6 | exact qg6 | exact q_max rfl rfl rfl | exact q_sliceData rfl rfl (by omega) | exact q_sliceDataN rfl rfl | exact q_unsafeStringN rfl rfl rfl | exact q_cap_slice rfl rfl))) | refine cod_seq ?_ | refine cod_region ?_ | refine run_nil ?_ | refine pst_then ?_ | (apply cod_cond_f; (focus rfl)) | refine cod_block ?_ | refine cod_skip ?_))
    (refine cod_loop_rw (σ := Nat × List UInt8) (fun x => x.1 ≤ l.length ∧ x.2.length = (bodyB (l.take x.1)).length ∧ x.2.length ≤ 605 * x.1) (fun x => [(16, .int .i64 (x.1 : Int)), (6, .string (str x.2))]) (fun x => []) _ (fun x => l.length - x.1) ((0, [])) (by exact ⟨Nat.zero_le _, rfl, Nat.zero_le _⟩) (by exact fsa) (by (first | exact HSub.of_picks_rest (by exact pca))) (fun ⟨k, o⟩ ⟨hk, ho, hol⟩ => ?_); dsimp only [List.cons_append, List.nil_append])
    dsimp only at hk ho hol ⊢
    rcases get_or l k with ⟨p, hp, hlt⟩ | hge
    · have hz := hr p (List.mem_of_getElem? hp)
      have CK := rblob_any p hz
      have ON := rone_any p hz
      have hlen := roneB_len hz
      have hob := oneB_bd (blobE_zero hz).2.2.2.2.2.2
      have hb2 := congrArg List.length (bodyB_next hp)
      rw [List.length_append, ← hlen, ← ho] at hb2
      generalize roneB p = rb at *
      (repeat' (first | (apply run_qg 1; (focus rfl); (focus exact wt); (focus rfl); (focus (exact qg1))) | (apply run_qg 2; (focus rfl); (focus exact wt); (focus rfl); (focus (first | exact qg2 | exact qs2))) | (apply run_qg 3; (focus rfl); (focus exact wt); (focus rfl); (focus (first | exact qg3 | exact qs3))) | (apply run_qg 4; (focus rfl); (focus exact wt); (focus rfl); (focus (first | exact qg4 | exact qs4))) | refine cod_seq ?_ | refine cod_region ?_ | refine run_nil ?_ | refine pst_then ?_ | (apply cod_cond_t; (focus rfl)) | (apply cod_cond_f; (focus rfl)) | refine cod_block ?_ | refine cod_skip ?_ | refine pst_block ?_ | (apply run_osg 8; (focus rfl); (focus exact wt); (focus rfl); (focus (exact opr_new rfl)); (rintro _ _ ⟨b, rfl, rfl⟩)) | (apply run_ong 9; (focus rfl); (focus exact wt); (focus (exact opr_store_box_agg rfl rfl rfl (by exact pka) rfl rfl rfl (by exact spla))); (rintro _ _ ⟨rfl, rfl⟩)) | (apply run_osg 7; (focus rfl); (focus exact wt); (focus rfl); (focus (exact opr_call_ls (by rfl) (CK ..) (by rfl) lpa)); (rintro _ _ ⟨rfl, rfl⟩)) | (apply run_osg 7; (focus rfl); (focus exact wt); (focus rfl); (focus (exact opr_call_ls (by rfl) (ON ..) (by rfl) lpa)); (rintro _ _ ⟨rfl, rfl⟩))))
      refine pst_again ((k + 1, o ++ rb)) ?_ (FSub.of (by (try dsimp only); exact fsa)) (by (try dsimp only); exact hsa) ?_
      · exact ⟨hlt, by dsimp only; rw [hb2, List.length_append], by dsimp only; rw [List.length_append]; omega⟩
      · dsimp only; omega
    · have hkl : k = l.length := by omega
      subst hkl
      rw [List.take_length, hB] at ho
      by_cases h998 : B ≤ 998
      · rw [if_pos h998]
        (repeat' (first | (apply run_qg 1; (focus rfl); (focus exact wt); (focus rfl); (focus (exact qg1))) | (apply run_qg 4; (focus rfl); (focus exact wt); (focus rfl); (focus (first | exact qg4 | exact qs4))) | (apply run_qg 6; (focus rfl); (focus exact wt); (focus rfl); (focus (first | exact qs6 | exact qg6 | exact q_max rfl rfl rfl | exact q_sliceData rfl rfl (by omega) | exact q_sliceDataN rfl rfl | exact q_unsafeStringN rfl rfl rfl | exact q_cap_slice rfl rfl))) | (apply run_qg 11; (focus rfl); (focus exact wt); (focus rfl); (focus (exact qs11))) | refine cod_seq ?_ | refine cod_region ?_ | refine run_nil ?_ | refine pst_then ?_ | (apply cod_cond_f; (focus rfl)) | refine cod_exit ?_ | refine cod_ret ?_ | refine cod_skip ?_ | refine pst_block_here ?_ | refine pst_then_exit ?_ | (apply run_osg 7; (focus rfl); (focus exact wt); (focus rfl); (focus (exact opr_call_ls (by rfl) (F1 ..) (by rfl) lpa)); (rintro _ _ ⟨rfl, rfl⟩))))
        exact pst_fin rfl (by exact resa) _ (⟨_, rfl, rfl⟩) (by exact hsa)
      · rw [if_neg h998]
        (repeat' (first | (apply run_qg 1; (focus rfl); (focus exact wt); (focus rfl); (focus (exact qg1))) | (apply run_qg 4; (focus rfl); (focus exact wt); (focus rfl); (focus (first | exact qg4 | exact qs4))) | (apply run_qg 6; (focus rfl); (focus exact wt); (focus rfl); (focus (first | exact qs6 | exact qg6 | exact q_max rfl rfl rfl | exact q_sliceData rfl rfl (by omega) | exact q_sliceDataN rfl rfl | exact q_unsafeStringN rfl rfl rfl | exact q_cap_slice rfl rfl))) | refine cod_seq ?_ | refine cod_region ?_ | refine run_nil ?_ | refine pst_then ?_ | (apply cod_cond_t; (focus rfl)) | (apply cod_cond_f; (focus rfl)) | refine cod_exit ?_ | refine cod_ret ?_ | refine pst_block_here ?_ | refine pst_then_exit ?_ | refine pst_then_ret ?_))
        exact pst_fin rfl (by exact resa) _ (⟨[], rfl, rfl⟩) (by exact hsa)
end Go.Proofs.Ytcbpeampjhegcaa.blob
