/-
  Several texts in one: DocBlobs, DocUnblob.
-/
import Derived.Test.YtcbpeampjhegcaaRefBlobs
import Derived.Test.YtcbpeampjhegcaaMgDoc
import Derived.Test.YtcbpeampjhegcaaBlobLaw
/-
  linenref.Blob, Blobs of any blobs: the walks.
-/
namespace Go.Proofs.Ytcbpeampjhegcaa.blob
open Go.RowKit kit sl Go.Proofs.Ytcbpeampjhegcaa.fix Go.Proofs.Ytcbpeampjhegcaa.fixl Go.Proofs.Ytcbpeampjhegcaa.put Go.Proofs.Ytcbpeampjhegcaa.get Go.Proofs.Ytcbpeampjhegcaa.sum
set_option linter.unusedVariables false
theorem rputB_eq {n : Nat} (h : n ≤ 600) : rputB n = putB n := by
  unfold rputB putB
  by_cases h1 : n < 128
  · rw [if_pos h1, putF_small _ _ h1]
  · rw [if_neg h1, putF_big _ _ h1, putF_small _ _ (by omega), Nat.add_comm 128]
theorem roneB_eq {p : Blob} (h : blobE p = 0) : roneB p = oneB p := by
  unfold roneB oneB
  rw [rputB_eq (blobE_zero h).2.2.2.2.2.2]
  simp
attribute [local irreducible] box own sl old bptr eptr Qt Opr Run Cod Pst Drn
set_option maxRecDepth 100000 in
set_option maxHeartbeats 8000000 in
theorem rblob_no (p : Blob) (h : blobE p ≠ 0) : Ct Try.prog 51 [.agg #[.int .i64 p.1, .int .i64 p.2.1, .int .i64 p.2.2.1, .string (str p.2.2.2)]] [] fun v H' => v = .int .i64 (blobE p) ∧ H' = [] := by
  obtain ⟨k, i, m, t⟩ := p
  dsimp only
  by_cases hb : badArg (k, i, m, t)
  · rw [blobE_1 hb]
    unfold badArg at hb
    dsimp only at hb
    clear h
    by_cases ht : t = []
    · have e3 : (t == []) = true := by rw [ht]; rfl
      have e2 : t.length = 0 := by rw [ht]; rfl
      (refine spec_enter Try.func51 Try.ntmps51 rfl rfl fun Fr => ?_; dsimp only [List.cons_append, List.nil_append, ini, Nat.reduceAdd])
      (repeat' (first | (apply run_qg 1; (focus rfl); (focus exact wt); (focus rfl); (focus (exact qg1))) | (apply run_qg 2; (focus rfl); (focus exact wt); (focus rfl); (focus (first | exact qg2 | exact qs2))) | (apply run_qg 3; (focus rfl); (focus exact wt); (focus rfl); (focus (first | exact qg3 | exact qs3))) | (apply run_qg 4; (focus rfl); (focus exact wt); (focus rfl); (focus (first | exact qg4 | exact qs4))) | refine cod_seq ?_ | refine cod_region ?_ | refine run_nil ?_ | refine pst_then ?_ | (apply cod_cond_t; (focus rfl)) | (apply cod_cond_f; (focus rfl)) | refine cod_ret ?_ | refine cod_skip ?_ | refine pst_then_ret ?_ | (apply run_osg 8; (focus rfl); (focus exact wt); (focus rfl); (focus (exact opr_box_agg rfl rfl)); (rintro _ _ ⟨b, rfl, rfl⟩)) | (apply run_offs; (focus rfl); (focus rfl); (focus rfl)) | (apply run_offus; (focus rfl); (focus rfl); (focus rfl)) | ((first | (apply run_lss; (rotate_left 2); (focus rfl)) | (apply run_leq; (rotate_left 2); (focus rfl)) | (apply run_gtr; (rotate_left 2); (focus rfl)) | (apply run_geq; (rotate_left 2); (focus rfl)) | (apply run_eql; (rotate_left 2); (focus rfl)) | (apply run_neq; (rotate_left 2); (focus rfl)) | (apply run_seq; (rotate_left 2); (focus rfl)) | (apply run_sneq; (rotate_left 2); (focus rfl))); (focus rfl); (focus rfl); (rotate_right 2); (focus exact wt); (focus rfl); (all_goals (intro h; dsimp only [upd])))))
      all_goals first | (exfalso; omega) | exact pst_fin rfl (by exact resa) _ (⟨rfl, rfl⟩) (by exact hsa)
    · have e3 : (t == []) = false := by simpa using ht
      have e2 : t.length ≠ 0 := fun h => ht (List.eq_nil_of_length_eq_zero h)
      (refine spec_enter Try.func51 Try.ntmps51 rfl rfl fun Fr => ?_; dsimp only [List.cons_append, List.nil_append, ini, Nat.reduceAdd])
      (repeat' (first | (apply run_qg 1; (focus rfl); (focus exact wt); (focus rfl); (focus (exact qg1))) | (apply run_qg 2; (focus rfl); (focus exact wt); (focus rfl); (focus (first | exact qg2 | exact qs2))) | (apply run_qg 3; (focus rfl); (focus exact wt); (focus rfl); (focus (first | exact qg3 | exact qs3))) | (apply run_qg 4; (focus rfl); (focus exact wt); (focus rfl); (focus (first | exact qg4 | exact qs4))) | refine cod_seq ?_ | refine cod_region ?_ | refine run_nil ?_ | refine pst_then ?_ | (apply cod_cond_t; (focus rfl)) | (apply cod_cond_f; (focus rfl)) | refine cod_ret ?_ | refine cod_skip ?_ | refine pst_then_ret ?_ | (apply run_osg 8; (focus rfl); (focus exact wt); (focus rfl); (focus (exact opr_box_agg rfl rfl)); (rintro _ _ ⟨b, rfl, rfl⟩)) | (apply run_offs; (focus rfl); (focus rfl); (focus rfl)) | (apply run_offus; (focus rfl); (focus rfl); (focus rfl)) | ((first | (apply run_lss; (rotate_left 2); (focus rfl)) | (apply run_leq; (rotate_left 2); (focus rfl)) | (apply run_gtr; (rotate_left 2); (focus rfl)) | (apply run_geq; (rotate_left 2); (focus rfl)) | (apply run_eql; (rotate_left 2); (focus rfl)) | (apply run_neq; (rotate_left 2); (focus rfl)) | (apply run_seq; (rotate_left 2); (focus rfl)) | (apply run_sneq; (rotate_left 2); (focus rfl))); (focus rfl); (focus rfl); (rotate_right 2); (focus exact wt); (focus rfl); (all_goals (intro h; dsimp only [upd])))))
      all_goals first | (exfalso; omega) | exact pst_fin rfl (by exact resa) _ (⟨rfl, rfl⟩) (by exact hsa)
  · have h6 : 600 < (t.length : Int) := by
      rcases Int.lt_or_le 600 (t.length : Int) with h7 | h7
      · exact h7
      · exact absurd (blobE_0 hb (by dsimp only; omega)) h
    rw [blobE_2 hb h6]
    unfold badArg at hb
    dsimp only at hb
    clear h
    have e3 : (t == []) = false := by
      have : t ≠ [] := fun h => by rw [h] at h6; simp at h6
      simpa using this
    (refine spec_enter Try.func51 Try.ntmps51 rfl rfl fun Fr => ?_; dsimp only [List.cons_append, List.nil_append, ini, Nat.reduceAdd])
    (repeat' (first | (apply run_qg 1; (focus rfl); (focus exact wt); (focus rfl); (focus (exact qg1))) | (apply run_qg 2; (focus rfl); (focus exact wt); (focus rfl); (focus (first | exact qg2 | exact qs2))) | (apply run_qg 3; (focus rfl); (focus exact wt); (focus rfl); (focus (first | exact qg3 | exact qs3))) | (apply run_qg 4; (focus rfl); (focus exact wt); (focus rfl); (focus (first | exact qg4 | exact qs4))) | (apply run_qg 6; (focus rfl); (focus exact wt); (focus rfl); (focus (first | exact qs6 | exact qg6 | exact q_max rfl rfl rfl | exact q_sliceData rfl rfl (by omega) | exact q_sliceDataN rfl rfl | exact q_unsafeStringN rfl rfl rfl | exact q_cap_slice rfl rfl))) | refine cod_seq ?_ | refine cod_region ?_ | refine run_nil ?_ | refine pst_then ?_ | (apply cod_cond_t; (focus rfl)) | (apply cod_cond_f; (focus rfl)) | refine cod_ret ?_ | refine cod_skip ?_ | refine pst_then_ret ?_ | (apply run_osg 8; (focus rfl); (focus exact wt); (focus rfl); (focus (exact opr_box_agg rfl rfl)); (rintro _ _ ⟨b, rfl, rfl⟩)) | (apply run_offs; (focus rfl); (focus rfl); (focus rfl)) | ((first | (apply run_lss; (rotate_left 2); (focus rfl)) | (apply run_leq; (rotate_left 2); (focus rfl)) | (apply run_gtr; (rotate_left 2); (focus rfl)) | (apply run_geq; (rotate_left 2); (focus rfl)) | (apply run_eql; (rotate_left 2); (focus rfl)) | (apply run_neq; (rotate_left 2); (focus rfl)) | (apply run_seq; (rotate_left 2); (focus rfl)) | (apply run_sneq; (rotate_left 2); (focus rfl))); (focus rfl); (focus rfl); (rotate_right 2); (focus exact wt); (focus rfl); (all_goals (intro h; dsimp only [upd])))))
    all_goals first | (exfalso; omega) | exact pst_fin rfl (by exact resa) _ (⟨rfl, rfl⟩) (by exact hsa)
def BlobsR (l : List Blob) (last : Bool) (v : Value) (H' : List Ent) : Prop := ∃ (t : List UInt8) (e : Int), ((writeE l = 0 → e = 0 ∧ t = writeB l last) ∧ (writeE l ≠ 0 → e ≠ 0)) ∧ v = .tuple #[.string (str t), .int .i64 e] ∧ H' = []
instance {l : List Blob} {last : Bool} : Xcl (BlobsR l last) := by unfold BlobsR; infer_instance
theorem writeE_bad {l : List Blob} (h : 40 < l.length ∨ firstE l ≠ 0 ∨ 998 < (bodyB l).length) : writeE l ≠ 0 := fun e => by
  unfold writeE at e
  split at e
  · cases e
  · split at e
    · rename_i h2
      exact h2 e
    · rename_i h1 h2
      split at e
      · cases e
      · rename_i h3
        simp only [ne_eq, Decidable.not_not] at h2
        rcases h with h | h | h
        · omega
        · exact h h2
        · omega
theorem writeE_good {l : List Blob} (h1 : ¬ 40 < l.length) (h2 : firstE l = 0) (h3 : ¬ 998 < (bodyB l).length) : writeE l = 0 := by
  unfold writeE
  rw [if_neg (by omega), if_neg (by rw [h2]; simp), if_neg (by omega)]
theorem blobs_no {l : List Blob} {last : Bool} {t : List UInt8} {e : Int} (h : writeE l ≠ 0) (he : e ≠ 0) : BlobsR l last (.tuple #[.string (str t), .int .i64 e]) [] := ⟨t, e, ⟨fun h' => absurd h' h, fun _ => he⟩, rfl, rfl⟩
set_option maxRecDepth 100000 in
set_option maxHeartbeats 8000000 in
theorem blobs_all (q : Option Addr) (c : Nat) (l : List Blob) (m : Nat) (last : Bool) (hm : l.length = m) (hml : m ≤ 1000) :
    Ct Try.prog 43 [.slice q m c, .bool last] [sl 4 (.slice q m c) (l.map fBl)] (BlobsR l last) := by
  subst hm
  by_cases h40 : 40 < l.length
  · have B0 : BlobsR l last (.tuple #[.string (str []), .int .i64 2]) [] := blobs_no (writeE_bad (.inl h40)) (by decide)
    (refine spec_enter Try.func43 Try.ntmps43 rfl rfl fun Fr => ?_; dsimp only [List.cons_append, List.nil_append, ini, Nat.reduceAdd])
    (repeat' (first | (apply run_qg 1; (focus rfl); (focus exact wt); (focus rfl); (focus (exact qg1))) | (apply run_qg 4; (focus rfl); (focus exact wt); (focus rfl); (focus (first | exact qg4 | exact qs4))) | (apply run_qg 6; (focus rfl); (focus exact wt); (focus rfl); (focus (first | exact qs6 | exact qg6 | exact q_max rfl rfl rfl | exact q_sliceData rfl rfl (by omega) | exact q_sliceDataN rfl rfl | exact q_unsafeStringN rfl rfl rfl | exact q_cap_slice rfl rfl))) | refine cod_seq ?_ | refine cod_region ?_ | refine run_nil ?_ | refine pst_then ?_ | (apply cod_cond_t; (focus rfl)) | refine cod_ret ?_ | refine pst_then_ret ?_))
    exact pst_fin rfl (by exact resa) _ (B0) (by exact hsa)
  · have F1 := docfix_any l.length 1 (by omega) (by decide)
    have l1 := fixB_len l.length 1
    (refine spec_enter Try.func43 Try.ntmps43 rfl rfl fun Fr => ?_; dsimp only [List.cons_append, List.nil_append, ini, Nat.reduceAdd])
    (repeat' (first | (apply run_qg 1; (focus rfl); (focus exact wt); (focus rfl); (focus (exact qg1))) | (apply run_qg 4; (focus rfl); (focus exact wt); (focus rfl); (focus (first | exact qg4 | exact qs4))) | (apply run_qg 6; (focus rfl); (focus exact wt); (focus rfl); (focus (first | exact qs6 | exact qg6 | exact q_max rfl rfl rfl | exact q_sliceData rfl rfl (by omega) | exact q_sliceDataN rfl rfl | exact q_unsafeStringN rfl rfl rfl | exact q_cap_slice rfl rfl))) | refine cod_seq ?_ | refine cod_region ?_ | refine run_nil ?_ | refine pst_then ?_ | (apply cod_cond_f; (focus rfl)) | refine cod_block ?_ | refine cod_skip ?_))
    (refine cod_loop_rw (σ := Nat) (fun k => k ≤ l.length ∧ firstE (l.take k) = 0 ∧ (bodyB (l.take k)).length ≤ 605 * k) (fun k => [(16, .int .i64 (k : Int)), (6, .string (str (bodyB (l.take k))))]) (fun k => []) _ (fun k => l.length - k) (0) (by exact ⟨Nat.zero_le _, rfl, Nat.zero_le _⟩) (by exact fsa) (by (first | exact HSub.of_picks_rest (by exact pca))) (fun k ⟨hk, ho, hol⟩ => ?_); dsimp only [List.cons_append, List.nil_append])
    rcases get_or l k with ⟨p, hp, hlt⟩ | hge
    · by_cases hz : blobE p = 0
      · have CK := rblob_any p hz
        have ON := rone_any p hz
        rw [roneB_eq hz] at ON
        have hob := oneB_bd (blobE_zero hz).2.2.2.2.2.2
        have hb2 := bodyB_next hp
        have hf2 := firstE_next hp ho hz
        generalize oneB p = rb at *
        generalize bodyB (l.take k) = body at *
        (repeat' (first | (apply run_qg 1; (focus rfl); (focus exact wt); (focus rfl); (focus (exact qg1))) | (apply run_qg 2; (focus rfl); (focus exact wt); (focus rfl); (focus (first | exact qg2 | exact qs2))) | (apply run_qg 3; (focus rfl); (focus exact wt); (focus rfl); (focus (first | exact qg3 | exact qs3))) | (apply run_qg 4; (focus rfl); (focus exact wt); (focus rfl); (focus (first | exact qg4 | exact qs4))) | refine cod_seq ?_ | refine cod_region ?_ | refine run_nil ?_ | refine pst_then ?_ | (apply cod_cond_t; (focus rfl)) | (apply cod_cond_f; (focus rfl)) | refine cod_block ?_ | refine cod_skip ?_ | refine pst_block ?_ | (apply run_osg 8; (focus rfl); (focus exact wt); (focus rfl); (focus (exact opr_new rfl)); (rintro _ _ ⟨b, rfl, rfl⟩)) | (apply run_ong 9; (focus rfl); (focus exact wt); (focus (exact opr_store_box_agg rfl rfl rfl (by exact pka) rfl rfl rfl (by exact spla))); (rintro _ _ ⟨rfl, rfl⟩)) | (apply run_osg 7; (focus rfl); (focus exact wt); (focus rfl); (focus (exact opr_call_ls (by rfl) (CK ..) (by rfl) lpa)); (rintro _ _ ⟨rfl, rfl⟩)) | (apply run_osg 7; (focus rfl); (focus exact wt); (focus rfl); (focus (exact opr_call_ls (by rfl) (ON ..) (by rfl) lpa)); (rintro _ _ ⟨rfl, rfl⟩))))
        rw [← hb2]
        refine pst_again (k + 1) ?_ (FSub.of (by (try dsimp only); exact fsa)) (by (try dsimp only); exact hsa) ?_
        · exact ⟨hlt, hf2, by rw [hb2, List.length_append]; omega⟩
        · omega
      · have CK := rblob_no p hz
        have hf := firstE_at hp ho hz
        have B0 : ∀ e : Int, e ≠ 0 → BlobsR l last (.tuple #[.string (str []), .int .i64 e]) [] := fun e he => blobs_no (writeE_bad (.inr (.inl (by rw [hf]; exact hz)))) he
        generalize blobE p = e at *
        (repeat' (first | (apply run_qg 1; (focus rfl); (focus exact wt); (focus rfl); (focus (exact qg1))) | (apply run_qg 2; (focus rfl); (focus exact wt); (focus rfl); (focus (first | exact qg2 | exact qs2))) | (apply run_qg 3; (focus rfl); (focus exact wt); (focus rfl); (focus (first | exact qg3 | exact qs3))) | (apply run_qg 4; (focus rfl); (focus exact wt); (focus rfl); (focus (first | exact qg4 | exact qs4))) | refine cod_seq ?_ | refine cod_region ?_ | refine run_nil ?_ | refine pst_then ?_ | (apply cod_cond_t; (focus rfl)) | refine cod_block ?_ | refine cod_ret ?_ | refine cod_skip ?_ | refine pst_block_ret ?_ | refine pst_then_ret ?_ | (apply run_osg 8; (focus rfl); (focus exact wt); (focus rfl); (focus (exact opr_new rfl)); (rintro _ _ ⟨b, rfl, rfl⟩)) | (apply run_ong 9; (focus rfl); (focus exact wt); (focus (exact opr_store_box_agg rfl rfl rfl (by exact pka) rfl rfl rfl (by exact spla))); (rintro _ _ ⟨rfl, rfl⟩)) | (apply run_osg 7; (focus rfl); (focus exact wt); (focus rfl); (focus (exact opr_call_ls (by rfl) (CK ..) (by rfl) lpa)); (rintro _ _ ⟨rfl, rfl⟩))))
        exact pst_fin rfl (by exact resa) _ (B0 e hz) (by exact hsa)
    · have hkl : k = l.length := by omega
      subst hkl
      rw [List.take_length] at ho hol ⊢
      by_cases h998 : 998 < (bodyB l).length
      · have B0 : BlobsR l last (.tuple #[.string (str []), .int .i64 2]) [] := blobs_no (writeE_bad (.inr (.inr h998))) (by decide)
        (repeat' (first | (apply run_qg 1; (focus rfl); (focus exact wt); (focus rfl); (focus (exact qg1))) | (apply run_qg 4; (focus rfl); (focus exact wt); (focus rfl); (focus (first | exact qg4 | exact qs4))) | (apply run_qg 6; (focus rfl); (focus exact wt); (focus rfl); (focus (first | exact qs6 | exact qg6 | exact q_max rfl rfl rfl | exact q_sliceData rfl rfl (by omega) | exact q_sliceDataN rfl rfl | exact q_unsafeStringN rfl rfl rfl | exact q_cap_slice rfl rfl))) | refine cod_seq ?_ | refine cod_region ?_ | refine run_nil ?_ | refine pst_then ?_ | (apply cod_cond_t; (focus rfl)) | (apply cod_cond_f; (focus rfl)) | refine cod_exit ?_ | refine cod_ret ?_ | refine pst_block_here ?_ | refine pst_then_exit ?_ | refine pst_then_ret ?_))
        exact pst_fin rfl (by exact resa) _ (B0) (by exact hsa)
      · have hg := writeE_good h40 ho h998
        have B0 : ∀ t, t = writeB l last → BlobsR l last (.tuple #[.string (str t), .int .i64 0]) [] := fun t ht => ⟨t, 0, ⟨fun _ => ⟨rfl, ht⟩, fun h => absurd hg h⟩, rfl, rfl⟩
        cases last with
        | true =>
          have e : [(1 : UInt8)] ++ fixB l.length 1 ++ bodyB l = writeB l true := rfl
          (repeat' (first | (apply run_qg 1; (focus rfl); (focus exact wt); (focus rfl); (focus (exact qg1))) | (apply run_qg 4; (focus rfl); (focus exact wt); (focus rfl); (focus (first | exact qg4 | exact qs4))) | (apply run_qg 6; (focus rfl); (focus exact wt); (focus rfl); (focus (first | exact qs6 | exact qg6 | exact q_max rfl rfl rfl | exact q_sliceData rfl rfl (by omega) | exact q_sliceDataN rfl rfl | exact q_unsafeStringN rfl rfl rfl | exact q_cap_slice rfl rfl))) | (apply run_qg 11; (focus rfl); (focus exact wt); (focus rfl); (focus (exact qs11))) | refine cod_seq ?_ | refine cod_region ?_ | refine run_nil ?_ | refine pst_then ?_ | (apply cod_cond_t; (focus rfl)) | (apply cod_cond_f; (focus rfl)) | refine cod_exit ?_ | refine cod_ret ?_ | refine cod_skip ?_ | refine pst_block_here ?_ | refine pst_then_exit ?_ | (apply run_osg 7; (focus rfl); (focus exact wt); (focus rfl); (focus (exact opr_call_ls (by rfl) (F1 ..) (by rfl) lpa)); (rintro _ _ ⟨rfl, rfl⟩))))
          exact pst_fin rfl (by exact resa) _ (B0 _ e) (by exact hsa)
        | false =>
          have e : [(0 : UInt8)] ++ fixB l.length 1 ++ bodyB l = writeB l false := rfl
          (repeat' (first | (apply run_qg 1; (focus rfl); (focus exact wt); (focus rfl); (focus (exact qg1))) | (apply run_qg 4; (focus rfl); (focus exact wt); (focus rfl); (focus (first | exact qg4 | exact qs4))) | (apply run_qg 6; (focus rfl); (focus exact wt); (focus rfl); (focus (first | exact qs6 | exact qg6 | exact q_max rfl rfl rfl | exact q_sliceData rfl rfl (by omega) | exact q_sliceDataN rfl rfl | exact q_unsafeStringN rfl rfl rfl | exact q_cap_slice rfl rfl))) | (apply run_qg 11; (focus rfl); (focus exact wt); (focus rfl); (focus (exact qs11))) | refine cod_seq ?_ | refine cod_region ?_ | refine run_nil ?_ | refine pst_then ?_ | (apply cod_cond_f; (focus rfl)) | refine cod_exit ?_ | refine cod_ret ?_ | refine cod_skip ?_ | refine pst_block_here ?_ | refine pst_then_exit ?_ | (apply run_osg 7; (focus rfl); (focus exact wt); (focus rfl); (focus (exact opr_call_ls (by rfl) (F1 ..) (by rfl) lpa)); (rintro _ _ ⟨rfl, rfl⟩))))
          exact pst_fin rfl (by exact resa) _ (B0 _ e) (by exact hsa)
end Go.Proofs.Ytcbpeampjhegcaa.blob
/-
  linenref.Unblob: the walk. It answers as blob.Read does.
-/
namespace Go.Proofs.Ytcbpeampjhegcaa.blob
open Go.RowKit kit sl Go.Proofs.Ytcbpeampjhegcaa.fix Go.Proofs.Ytcbpeampjhegcaa.fixl Go.Proofs.Ytcbpeampjhegcaa.put Go.Proofs.Ytcbpeampjhegcaa.get Go.Proofs.Ytcbpeampjhegcaa.sum
set_option linter.unusedVariables false
/-- what the loop knows: what is read is a beginning of what is there to be read -/
def UnI (L : List UInt8) (t : List UInt8) (l : List Blob) : Prop := ∀ zs, readO L = some zs → ∃ rest, zs = l ++ rest ∧ t = bodyB rest
theorem read_parts {L : List UInt8} {zs : List Blob} (h : readO L = some zs) : (∀ p ∈ zs, blobE p = 0) ∧ bodyB zs = L.drop 2 := by
  obtain ⟨h1, h2, _⟩ := write_read h
  refine ⟨fun p hp => ?_, ?_⟩
  · by_cases hz : firstE zs = 0
    · exact firstE_zero.1 hz p hp
    · exact absurd h1 (writeE_bad (.inr (.inl hz)))
  · have e : (headB ((L.getD 0 0).toNat == 1) zs.length).length = 2 := by
      unfold headB
      rw [List.length_append, fixB_len]
      split <;> rfl
    rw [← h2]
    unfold writeB
    rw [← e, List.drop_left]
theorem un_start (L : List UInt8) : UnI L (L.drop 2) [] := fun zs h => ⟨zs, rfl, (read_parts h).2.symm⟩
theorem un_head {L t : List UInt8} {l : List Blob} (h : UnI L t l) (ht : t ≠ []) {zs : List Blob} (hz : readO L = some zs) : ∃ p rest, zs = l ++ p :: rest ∧ t = oneB p ++ bodyB rest ∧ blobE p = 0 := by
  obtain ⟨rest, h1, h2⟩ := h zs hz
  cases rest with
  | nil => exact absurd h2 ht
  | cons p rest => exact ⟨p, rest, h1, h2, (read_parts hz).1 p (by rw [h1]; simp)⟩
theorem un_none {L t : List UInt8} {l : List Blob} (h : UnI L t l) (ht : t ≠ []) (no : ∀ p rest, blobE p = 0 → t = oneB p ++ bodyB rest → False) : readO L = none := by
  cases hz : readO L with
  | none => rfl
  | some zs =>
    obtain ⟨p, rest, _, h2, h3⟩ := un_head h ht hz
    exact (no p rest h3 h2).elim
theorem un_step {L t : List UInt8} {l : List Blob} {n j : Nat} {b0 b1 b2 : UInt8} (h : UnI L t l) (ht : t ≠ []) (hg : getB (t.drop 3) = (n, j, 0)) (h0 : t[0]? = some b0) (h1 : t[1]? = some b1) (h2 : t[2]? = some b2) :
    UnI L (t.drop (3 + j + n)) (l ++ [((b0.toNat : Int), (b1.toNat : Int), (b2.toNat : Int), (t.drop (3 + j)).take n)]) := fun zs hz => by
  obtain ⟨p, rest, e1, e2, e3⟩ := un_head h ht hz
  obtain ⟨_, g2, _, g4, g5, g6, g7, g8⟩ := one_parts p e3 (bodyB rest)
  rw [← e2] at g2 g4 g5 g6 g7 g8
  rw [hg] at g2
  simp only [Prod.mk.injEq] at g2
  obtain ⟨g2, g3, _⟩ := g2
  rw [h0] at g4
  rw [h1] at g5
  rw [h2] at g6
  rw [Option.some.inj g4, Option.some.inj g5, Option.some.inj g6, g2, g3, g7, g8, blob_back p e3]
  exact ⟨rest, by rw [e1]; simp, rfl⟩
theorem un_end {L : List UInt8} {l : List Blob} (h : UnI L [] l) {zs : List Blob} (hz : readO L = some zs) : zs = l := by
  obtain ⟨rest, h1, h2⟩ := h zs hz
  cases rest with
  | nil => rw [h1, List.append_nil]
  | cons p rest =>
    have : oneB p ++ bodyB rest = [] := h2.symm
    have := congrArg List.length this
    unfold oneB at this
    simp at this
attribute [local irreducible] box own sl old bptr eptr Qt Opr Run Cod Pst Drn
set_option maxRecDepth 100000 in
set_option maxHeartbeats 8000000 in
theorem unblob_any (L : List UInt8) (hL : L.length ≤ 1000000000000000) : Ct Try.prog 33 [.string (str L)] [] (ReadB L) := by
  have bad : readO L = none → ReadB L (.tuple #[.slice none 0 0, .bool false, .int .i64 4]) [] := fun h => .inr ⟨h, rfl, rfl⟩
  by_cases hh : 2 ≤ L.length ∧ L.length ≤ 1000
  · obtain ⟨h1, h2⟩ := hh
    obtain ⟨b0, hb0⟩ : ∃ b0, L[0]? = some b0 := ⟨_, List.getElem?_eq_getElem (by omega)⟩
    have hg0 := getD_of hb0
    have hst := un_start L
    have hdl : (L.drop 2).length = L.length - 2 := List.length_drop
    (refine spec_enter Try.func33 Try.ntmps33 rfl rfl fun Fr => ?_; dsimp only [List.cons_append, List.nil_append, ini, Nat.reduceAdd])
    (repeat' (first | (apply run_qg 1; (focus rfl); (focus exact wt); (focus rfl); (focus (exact qg1))) | (apply run_qg 4; (focus rfl); (focus exact wt); (focus rfl); (focus (first | exact qg4 | exact qs4))) | (apply run_qg 6; (focus rfl); (focus exact wt); (focus rfl); (focus (first | exact qs6 | exact qg6 | exact q_max rfl rfl rfl | exact q_sliceData rfl rfl (by omega) | exact q_sliceDataN rfl rfl | exact q_unsafeStringN rfl rfl rfl | exact q_cap_slice rfl rfl))) | (apply run_qg 12; (focus rfl); (focus exact wt); (focus rfl); (focus (first | exact qs12 | exact q_cutp rfl rfl rfl rfl (by omega) (by omega) | exact q_slice_cap rfl rfl rfl rfl (by omega)))) | refine cod_seq ?_ | refine cod_region ?_ | refine run_nil ?_ | refine pst_then ?_ | (apply cod_cond_f; (focus rfl)) | refine cod_block ?_ | refine cod_skip ?_))
    refine cod_heap (heap_nil _ 56 4) ?_
    (refine cod_loop_rw (σ := List UInt8 × List Blob × Option Addr × Nat) (fun x => x.1.length + 3 * x.2.1.length ≤ 998 ∧ UnI L x.1 x.2.1) (fun x => [(6, .string (str x.1)), (5, .slice x.2.2.1 x.2.1.length x.2.2.2)]) (fun x => [own (.slice x.2.2.1 x.2.1.length x.2.2.2) 56 4 x.2.1.length (flat fBl x.2.1)]) _ (fun x => x.1.length) ((L.drop 2, [], none, 0)) (by exact ⟨by dsimp only; rw [hdl, List.length_nil]; omega, hst⟩) (by exact fsa) (by (first | exact HSub.of_picks_rest (by exact pca))) (fun ⟨t, zs, q, c⟩ ⟨hl, hI⟩ => ?_); dsimp only [List.cons_append, List.nil_append])
    dsimp only at hl hI
    by_cases ht : t = []
    · subst ht
      have e1 : (([] : List UInt8) == []) = true := rfl
      have BB := fun q c => blobs_all q c zs zs.length (b0.toNat == 1) rfl (by omega)
      have hfin : ∀ (t' : List UInt8) (e : Int), (writeE zs = 0 → e = 0 ∧ t' = writeB zs (b0.toNat == 1)) → (writeE zs ≠ 0 → e ≠ 0) → (e = 0 ∧ t' = L ∧ readO L = some zs) ∨ ((e ≠ 0 ∨ t' ≠ L) ∧ readO L = none) := fun t' e k1 k2 => by
        cases hz : readO L with
        | some ys =>
          have e2 := un_end hI hz
          subst e2
          obtain ⟨w1, w2, _⟩ := write_read hz
          rw [hg0] at w2
          obtain ⟨k3, k4⟩ := k1 w1
          exact .inl ⟨k3, by rw [k4, w2], rfl⟩
        | none =>
          refine .inr ⟨?_, rfl⟩
          by_cases he : e = 0
          · right
            intro e2
            by_cases hw : writeE zs = 0
            · have := (read_write (b0.toNat == 1) hw).2.1
              rw [← (k1 hw).2, e2, hz] at this
              cases this
            · exact k2 hw he
          · exact .inl he
      by_cases hb1 : (b0.toNat : Int) = 1
      · have hbb : (b0.toNat == 1) = true := by simp only [beq_iff_eq]; omega
        rw [hbb] at BB
        have hok : readO L = some zs → ∀ q c, ReadB L (.tuple #[.slice q zs.length c, .bool true, .int .i64 0]) [own (.slice q zs.length c) 56 4 zs.length (flat fBl zs)] := fun h q c => .inl ⟨zs, q, c, h, by rw [hg0, hbb], rfl⟩
        rw [hbb] at hfin
        clear hI hst hbb
        (repeat' (first | (apply run_qg 1; (focus rfl); (focus exact wt); (focus rfl); (focus (exact qg1))) | (apply run_qg 3; (focus rfl); (focus exact wt); (focus rfl); (focus (first | exact qg3 | exact qs3))) | (apply run_qg 4; (focus rfl); (focus exact wt); (focus rfl); (focus (first | exact qg4 | exact qs4))) | refine cod_seq ?_ | refine cod_region ?_ | refine run_nil ?_ | refine pst_then ?_ | (apply cod_cond_f; (focus rfl)) | refine cod_exit ?_ | refine pst_block_here ?_ | refine pst_then_exit ?_))
        (refine run_os wt rfl (opr_call_l rfl (BB _ _) rfl (by exact lpa)) ?_; rintro _ _ ⟨_, ⟨t', e, ⟨k1, k2⟩, rfl, rfl⟩, rfl⟩; dsimp only [List.cons_append, List.nil_append])
        rcases hfin t' e k1 k2 with ⟨rfl, rfl, k3⟩ | ⟨k3, k4⟩
        · have e2 : (t' == t') = true := by simp
          have R0 := hok k3
          clear hfin k1 k2 hok
          (repeat' (first | (apply run_qg 1; (focus rfl); (focus exact wt); (focus rfl); (focus (exact qg1))) | (apply run_qg 4; (focus rfl); (focus exact wt); (focus rfl); (focus (first | exact qg4 | exact qs4))) | refine cod_seq ?_ | refine cod_region ?_ | refine run_nil ?_ | refine pst_then ?_ | (apply cod_cond_f; (focus rfl)) | refine cod_ret ?_ | refine cod_skip ?_ | (apply cod_drawn_k; (focus kernel_rfl); (focus (simp only [List.length_cons, List.length_nil, Nat.reduceAdd]; rfl))) | (apply drnK_take 1; (focus rfl); (focus rfl); (focus exact wt); (focus (decide +kernel)); (focus exact hsq); (focus rfl); (focus (exact qg1))) | (apply drnK_take 3; (focus rfl); (focus rfl); (focus exact wt); (focus (decide +kernel)); (focus exact hsq); (focus rfl); (focus (first | exact qg3 | exact qs3))) | (apply drnK_take 4; (focus rfl); (focus rfl); (focus exact wt); (focus (decide +kernel)); (focus exact hsq); (focus rfl); (focus (first | exact qg4 | exact qs4))) | (apply drnK_end; (focus (decide +kernel)))))
          exact pst_fin rfl (by exact resa) _ (R0 _ _) (by exact hsa)
        · have R0 := bad k4
          clear hfin k1 k2 hok
          by_cases he : e = 0
          · have e2 : (t' == L) = false := by simpa using k3.resolve_left fun h => h he
            clear k3
            (repeat' (first | (apply run_qg 1; (focus rfl); (focus exact wt); (focus rfl); (focus (exact qg1))) | (apply run_qg 4; (focus rfl); (focus exact wt); (focus rfl); (focus (first | exact qg4 | exact qs4))) | refine cod_seq ?_ | refine cod_region ?_ | refine run_nil ?_ | refine pst_then ?_ | (apply cod_cond_t; (focus rfl)) | refine cod_ret ?_ | refine pst_then_ret ?_))
            exact pst_fin rfl (by exact resa) _ (R0) (by exact hsa)
          · clear k3
            (repeat' (first | (apply run_qg 1; (focus rfl); (focus exact wt); (focus rfl); (focus (exact qg1))) | (apply run_qg 4; (focus rfl); (focus exact wt); (focus rfl); (focus (first | exact qg4 | exact qs4))) | refine cod_seq ?_ | refine cod_region ?_ | refine run_nil ?_ | refine pst_then ?_ | (apply cod_cond_t; (focus rfl)) | refine cod_ret ?_ | refine pst_then_ret ?_ | (apply run_offs; (focus rfl); (focus rfl); (focus rfl))))
            exact pst_fin rfl (by exact resa) _ (R0) (by exact hsa)
      · have hbb : (b0.toNat == 1) = false := by
          have : ¬ b0.toNat = 1 := by omega
          simpa using this
        rw [hbb] at BB
        have hok : readO L = some zs → ∀ q c, ReadB L (.tuple #[.slice q zs.length c, .bool false, .int .i64 0]) [own (.slice q zs.length c) 56 4 zs.length (flat fBl zs)] := fun h q c => .inl ⟨zs, q, c, h, by rw [hg0, hbb], rfl⟩
        rw [hbb] at hfin
        clear hI hst hbb
        (repeat' (first | (apply run_qg 1; (focus rfl); (focus exact wt); (focus rfl); (focus (exact qg1))) | (apply run_qg 3; (focus rfl); (focus exact wt); (focus rfl); (focus (first | exact qg3 | exact qs3))) | (apply run_qg 4; (focus rfl); (focus exact wt); (focus rfl); (focus (first | exact qg4 | exact qs4))) | refine cod_seq ?_ | refine cod_region ?_ | refine run_nil ?_ | refine pst_then ?_ | (apply cod_cond_f; (focus rfl)) | refine cod_exit ?_ | refine pst_block_here ?_ | refine pst_then_exit ?_))
        (refine run_os wt rfl (opr_call_l rfl (BB _ _) rfl (by exact lpa)) ?_; rintro _ _ ⟨_, ⟨t', e, ⟨k1, k2⟩, rfl, rfl⟩, rfl⟩; dsimp only [List.cons_append, List.nil_append])
        rcases hfin t' e k1 k2 with ⟨rfl, rfl, k3⟩ | ⟨k3, k4⟩
        · have e2 : (t' == t') = true := by simp
          have R0 := hok k3
          clear hfin k1 k2 hok
          (repeat' (first | (apply run_qg 1; (focus rfl); (focus exact wt); (focus rfl); (focus (exact qg1))) | (apply run_qg 4; (focus rfl); (focus exact wt); (focus rfl); (focus (first | exact qg4 | exact qs4))) | refine cod_seq ?_ | refine cod_region ?_ | refine run_nil ?_ | refine pst_then ?_ | (apply cod_cond_f; (focus rfl)) | refine cod_ret ?_ | refine cod_skip ?_ | (apply cod_drawn_k; (focus kernel_rfl); (focus (simp only [List.length_cons, List.length_nil, Nat.reduceAdd]; rfl))) | (apply drnK_take 1; (focus rfl); (focus rfl); (focus exact wt); (focus (decide +kernel)); (focus exact hsq); (focus rfl); (focus (exact qg1))) | (apply drnK_take 3; (focus rfl); (focus rfl); (focus exact wt); (focus (decide +kernel)); (focus exact hsq); (focus rfl); (focus (first | exact qg3 | exact qs3))) | (apply drnK_take 4; (focus rfl); (focus rfl); (focus exact wt); (focus (decide +kernel)); (focus exact hsq); (focus rfl); (focus (first | exact qg4 | exact qs4))) | (apply drnK_end; (focus (decide +kernel)))))
          exact pst_fin rfl (by exact resa) _ (R0 _ _) (by exact hsa)
        · have R0 := bad k4
          clear hfin k1 k2 hok
          by_cases he : e = 0
          · have e2 : (t' == L) = false := by simpa using k3.resolve_left fun h => h he
            clear k3
            (repeat' (first | (apply run_qg 1; (focus rfl); (focus exact wt); (focus rfl); (focus (exact qg1))) | (apply run_qg 4; (focus rfl); (focus exact wt); (focus rfl); (focus (first | exact qg4 | exact qs4))) | refine cod_seq ?_ | refine cod_region ?_ | refine run_nil ?_ | refine pst_then ?_ | (apply cod_cond_t; (focus rfl)) | refine cod_ret ?_ | refine pst_then_ret ?_))
            exact pst_fin rfl (by exact resa) _ (R0) (by exact hsa)
          · clear k3
            (repeat' (first | (apply run_qg 1; (focus rfl); (focus exact wt); (focus rfl); (focus (exact qg1))) | (apply run_qg 4; (focus rfl); (focus exact wt); (focus rfl); (focus (first | exact qg4 | exact qs4))) | refine cod_seq ?_ | refine cod_region ?_ | refine run_nil ?_ | refine pst_then ?_ | (apply cod_cond_t; (focus rfl)) | refine cod_ret ?_ | refine pst_then_ret ?_ | (apply run_offs; (focus rfl); (focus rfl); (focus rfl))))
            exact pst_fin rfl (by exact resa) _ (R0) (by exact hsa)
    · have e1 : (t == []) = false := by simpa using ht
      have no := un_none hI ht
      by_cases h4 : t.length < 4
      · have B0 := bad (no fun p rest hp e => by
          have := (oneB_bd (blobE_zero hp).2.2.2.2.2.2).1
          rw [e, List.length_append] at h4
          omega)
        clear no hI hst
        (repeat' (first | (apply run_qg 1; (focus rfl); (focus exact wt); (focus rfl); (focus (exact qg1))) | (apply run_qg 4; (focus rfl); (focus exact wt); (focus rfl); (focus (first | exact qg4 | exact qs4))) | (apply run_qg 6; (focus rfl); (focus exact wt); (focus rfl); (focus (first | exact qs6 | exact qg6 | exact q_max rfl rfl rfl | exact q_sliceData rfl rfl (by omega) | exact q_sliceDataN rfl rfl | exact q_unsafeStringN rfl rfl rfl | exact q_cap_slice rfl rfl))) | refine cod_seq ?_ | refine cod_region ?_ | refine run_nil ?_ | refine pst_then ?_ | (apply cod_cond_t; (focus rfl)) | refine cod_block ?_ | refine cod_ret ?_ | refine cod_skip ?_ | refine pst_block_ret ?_ | refine pst_then_ret ?_))
        exact pst_fin rfl (by exact resa) _ (B0) (by exact hsa)
      · have hgl : (t.drop 3).length ≤ 1000000000000000 := by rw [List.length_drop]; omega
        have G0 := docget_val (t.drop 3) hgl
        rcases getB_facts (t.drop 3) with ⟨j, n, g1, g2, g3, g4, g5⟩ | g1 | g1
        · rw [g1] at G0
          dsimp only [getV] at G0
          rw [List.length_drop] at g3
          by_cases hn6 : 600 < n
          · have B0 := bad (no fun p rest hp e => by
              have := (one_parts p hp (bodyB rest)).2.1
              rw [← e, g1] at this
              simp only [Prod.mk.injEq] at this
              have := (blobE_zero hp).2.2.2.2.2.2
              omega)
            clear no hI hst g1 g5
            (repeat' (first | (apply run_qg 1; (focus rfl); (focus exact wt); (focus rfl); (focus (exact qg1))) | (apply run_qg 4; (focus rfl); (focus exact wt); (focus rfl); (focus (first | exact qg4 | exact qs4))) | (apply run_qg 6; (focus rfl); (focus exact wt); (focus rfl); (focus (first | exact qs6 | exact qg6 | exact q_max rfl rfl rfl | exact q_sliceData rfl rfl (by omega) | exact q_sliceDataN rfl rfl | exact q_unsafeStringN rfl rfl rfl | exact q_cap_slice rfl rfl))) | (apply run_qg 12; (focus rfl); (focus exact wt); (focus rfl); (focus (first | exact qs12 | exact q_cutp rfl rfl rfl rfl (by omega) (by omega) | exact q_slice_cap rfl rfl rfl rfl (by omega)))) | refine cod_seq ?_ | refine cod_region ?_ | refine run_nil ?_ | refine pst_then ?_ | (apply cod_cond_t; (focus rfl)) | (apply cod_cond_f; (focus rfl)) | refine cod_block ?_ | refine cod_ret ?_ | refine cod_skip ?_ | refine pst_block_ret ?_ | refine pst_then_ret ?_ | (apply run_offs; (focus rfl); (focus rfl); (focus rfl)) | (apply run_osg 7; (focus rfl); (focus exact wt); (focus rfl); (focus (exact opr_call_ls (by rfl) (G0 ..) (by rfl) lpa)); (rintro _ _ ⟨rfl, rfl⟩))))
            exact pst_fin rfl (by exact resa) _ (B0) (by exact hsa)
          · by_cases hfar : t.length < 3 + j + n
            · have B0 := bad (no fun p rest hp e => by
                have h5 := one_parts p hp (bodyB rest)
                have h6 := h5.2.1
                rw [← e, g1] at h6
                simp only [Prod.mk.injEq] at h6
                have h7 := h5.2.2.1
                rw [← e] at h7
                omega)
              clear no hI hst g1 g5
              (repeat' (first | (apply run_qg 1; (focus rfl); (focus exact wt); (focus rfl); (focus (exact qg1))) | (apply run_qg 4; (focus rfl); (focus exact wt); (focus rfl); (focus (first | exact qg4 | exact qs4))) | (apply run_qg 6; (focus rfl); (focus exact wt); (focus rfl); (focus (first | exact qs6 | exact qg6 | exact q_max rfl rfl rfl | exact q_sliceData rfl rfl (by omega) | exact q_sliceDataN rfl rfl | exact q_unsafeStringN rfl rfl rfl | exact q_cap_slice rfl rfl))) | (apply run_qg 11; (focus rfl); (focus exact wt); (focus rfl); (focus (exact qs11))) | (apply run_qg 12; (focus rfl); (focus exact wt); (focus rfl); (focus (first | exact qs12 | exact q_cutp rfl rfl rfl rfl (by omega) (by omega) | exact q_slice_cap rfl rfl rfl rfl (by omega)))) | refine cod_seq ?_ | refine cod_region ?_ | refine run_nil ?_ | refine pst_then ?_ | (apply cod_cond_t; (focus rfl)) | (apply cod_cond_f; (focus rfl)) | refine cod_block ?_ | refine cod_ret ?_ | refine cod_skip ?_ | refine pst_block_ret ?_ | refine pst_then_ret ?_ | (apply run_osg 7; (focus rfl); (focus exact wt); (focus rfl); (focus (exact opr_call_ls (by rfl) (G0 ..) (by rfl) lpa)); (rintro _ _ ⟨rfl, rfl⟩))))
              exact pst_fin rfl (by exact resa) _ (B0) (by exact hsa)
            · obtain ⟨y0, hc0⟩ : ∃ b, t[0]? = some b := ⟨_, List.getElem?_eq_getElem (by omega)⟩
              obtain ⟨y1, hc1⟩ : ∃ b, t[1]? = some b := ⟨_, List.getElem?_eq_getElem (by omega)⟩
              obtain ⟨y2, hc2⟩ : ∃ b, t[2]? = some b := ⟨_, List.getElem?_eq_getElem (by omega)⟩
              have hN := un_step hI ht g1 hc0 hc1 hc2
              have hX : (t.drop (3 + j)).take (3 + j + n - (3 + j)) = (t.drop (3 + j)).take n := by rw [show 3 + j + n - (3 + j) = n by omega]
              obtain ⟨txt, htxt⟩ : ∃ x, (t.drop (3 + j)).take n = x := ⟨_, rfl⟩
              rw [htxt] at hN hX
              have c1 : (3 : Int) + (j : Int) = ((3 + j : Nat) : Int) := by omega
              have c2 : (3 : Int) + (j : Int) + (n : Int) = ((3 + j + n : Nat) : Int) := by omega
              have hbt0 := y0.toNat_lt
              have hbt1 := y1.toNat_lt
              have hbt2 := y2.toNat_lt
              clear no hI hst g1 g5 htxt
              (repeat' (first | (apply run_qg 1; (focus rfl); (focus exact wt); (focus rfl); (focus (exact qg1))) | (apply run_qg 4; (focus rfl); (focus exact wt); (focus rfl); (focus (first | exact qg4 | exact qs4))) | (apply run_qg 6; (focus rfl); (focus exact wt); (focus rfl); (focus (first | exact qs6 | exact qg6 | exact q_max rfl rfl rfl | exact q_sliceData rfl rfl (by omega) | exact q_sliceDataN rfl rfl | exact q_unsafeStringN rfl rfl rfl | exact q_cap_slice rfl rfl))) | (apply run_qg 11; (focus rfl); (focus exact wt); (focus rfl); (focus (exact qs11))) | (apply run_qg 12; (focus rfl); (focus exact wt); (focus rfl); (focus (first | exact qs12 | exact q_cutp rfl rfl rfl rfl (by omega) (by omega) | exact q_slice_cap rfl rfl rfl rfl (by omega)))) | refine cod_seq ?_ | refine cod_region ?_ | refine run_nil ?_ | refine pst_then ?_ | (apply cod_cond_t; (focus rfl)) | (apply cod_cond_f; (focus rfl)) | refine cod_block ?_ | refine cod_skip ?_ | (apply run_osg 7; (focus rfl); (focus exact wt); (focus rfl); (focus (exact opr_call_ls (by rfl) (G0 ..) (by rfl) lpa)); (rintro _ _ ⟨rfl, rfl⟩))))
              (refine cod_drawn_ks (Hq := []) [] [] rfl (by kernel_rfl) (by simp only [List.length_cons, List.length_nil, Nat.reduceAdd]; rfl) ?_)
              (repeat' (first | (apply drnK_take 1; (focus rfl); (focus rfl); (focus exact wt); (focus (decide +kernel)); (focus exact hsq); (focus rfl); (focus (exact qg1))) | (apply drnK_take 3; (focus rfl); (focus rfl); (focus exact wt); (focus (decide +kernel)); (focus exact hsq); (focus rfl); (focus (first | exact qg3 | exact qs3))) | (apply drnK_take 4; (focus rfl); (focus rfl); (focus exact wt); (focus (decide +kernel)); (focus exact hsq); (focus rfl); (focus (first | exact qg4 | exact qs4))) | (apply drnK_take 5; (focus rfl); (focus rfl); (focus exact wt); (focus (decide +kernel)); (focus exact hsq); (focus rfl); (focus (exact qg5))) | (apply drnK_take 11; (focus rfl); (focus rfl); (focus exact wt); (focus (decide +kernel)); (focus exact hsq); (focus rfl); (focus (exact qs11))) | (apply drnK_take 12; (focus rfl); (focus rfl); (focus exact wt); (focus (decide +kernel)); (focus exact hsq); (focus rfl); (focus (first | exact qs12 | exact q_cutp rfl rfl rfl rfl (by omega) (by omega) | exact q_slice_cap rfl rfl rfl rfl (by omega)))) | (apply drnK_done; (focus (decide +kernel))) | (apply drnK_skip; (focus rfl)) | (apply drnK_wrap; (focus rfl))))
              (refine drnK_at 20 ?_; (first | refine drnK_ones _ (by rfl) (by rfl) (by kernel_rfl) wt (by rfl) (by exact opr_buildSlice rfl rfl rfl (by exact blda) rfl rfl (by decide) rfl) ?_ | refine drnK_onen _ (by rfl) (by rfl) (by kernel_rfl) wt (by exact opr_buildSlice rfl rfl rfl (by exact blda) rfl rfl (by decide) rfl) ?_); rintro _ _ ⟨q3, rfl, rfl⟩; refine ⟨(by first | exact fun h => absurd h (by decide) | exact fun _ => hsq), ?_⟩; (try dsimp only [List.cons_append, List.nil_append]))
              (refine drnK_at 21 ?_; (first | refine drnK_ones _ (by rfl) (by rfl) (by kernel_rfl) wt (by rfl) (by exact (by first | exact opr_append_lit0 (fBl) [(((y0.toNat : Int), (y1.toNat : Int), (y2.toNat : Int), txt) : Blob)] rfl rfl rfl (by exact pka) (by rfl) (by rfl) (by intro _; rfl) (by (first | exact one_fS | exact one_fI | exact one_fB | exact one_fP | exact one_fIIS | exact one_fIIIS | exact one_fII | exact one_fSI | exact one_fIIU | exact one_fY | exact one_fBl | exact one_fT | exact one_fE | assumption)) rfl (by simp only [List.length_cons, List.length_nil]; omega) (by (unfold maxLen); simp only [List.length_cons, List.length_nil]; omega) | exact opr_append_lit (fBl) [(((y0.toNat : Int), (y1.toNat : Int), (y2.toNat : Int), txt) : Blob)] rfl rfl rfl (by exact pka) (by exact pka) (by rfl) (by rfl) (by first | rfl | omega) (by intro _; rfl) (by (first | exact one_fS | exact one_fI | exact one_fB | exact one_fP | exact one_fIIS | exact one_fIIIS | exact one_fII | exact one_fSI | exact one_fIIU | exact one_fY | exact one_fBl | exact one_fT | exact one_fE | assumption)) rfl (by simp only [List.length_cons, List.length_nil]; omega) (by (unfold maxLen); simp only [List.length_cons, List.length_nil]; omega))) ?_ | refine drnK_onen _ (by rfl) (by rfl) (by kernel_rfl) wt (by exact (by first | exact opr_append_lit0 (fBl) [(((y0.toNat : Int), (y1.toNat : Int), (y2.toNat : Int), txt) : Blob)] rfl rfl rfl (by exact pka) (by rfl) (by rfl) (by intro _; rfl) (by (first | exact one_fS | exact one_fI | exact one_fB | exact one_fP | exact one_fIIS | exact one_fIIIS | exact one_fII | exact one_fSI | exact one_fIIU | exact one_fY | exact one_fBl | exact one_fT | exact one_fE | assumption)) rfl (by simp only [List.length_cons, List.length_nil]; omega) (by (unfold maxLen); simp only [List.length_cons, List.length_nil]; omega) | exact opr_append_lit (fBl) [(((y0.toNat : Int), (y1.toNat : Int), (y2.toNat : Int), txt) : Blob)] rfl rfl rfl (by exact pka) (by exact pka) (by rfl) (by rfl) (by first | rfl | omega) (by intro _; rfl) (by (first | exact one_fS | exact one_fI | exact one_fB | exact one_fP | exact one_fIIS | exact one_fIIIS | exact one_fII | exact one_fSI | exact one_fIIU | exact one_fY | exact one_fBl | exact one_fT | exact one_fE | assumption)) rfl (by simp only [List.length_cons, List.length_nil]; omega) (by (unfold maxLen); simp only [List.length_cons, List.length_nil]; omega))) ?_); rintro _ _ ⟨q2, c2', rfl, rfl⟩; refine ⟨(by first | exact fun h => absurd h (by decide) | exact fun _ => hsq), ?_⟩; (try dsimp only [List.cons_append, List.nil_append]))
              (repeat' (first | (apply run_qg 1; (focus rfl); (focus exact wt); (focus rfl); (focus (exact qg1))) | (apply run_qg 4; (focus rfl); (focus exact wt); (focus rfl); (focus (first | exact qg4 | exact qs4))) | (apply run_qg 11; (focus rfl); (focus exact wt); (focus rfl); (focus (exact qs11))) | (apply run_qg 12; (focus rfl); (focus exact wt); (focus rfl); (focus (first | exact qs12 | exact q_cutp rfl rfl rfl rfl (by omega) (by omega) | exact q_slice_cap rfl rfl rfl rfl (by omega)))) | refine cod_region ?_ | refine run_nil ?_ | refine pst_then ?_ | refine pst_block ?_ | (apply drnK_take 1; (focus rfl); (focus rfl); (focus exact wt); (focus (decide +kernel)); (focus exact hsq); (focus rfl); (focus (exact qg1))) | (apply drnK_end; (focus (decide +kernel)))))
              refine pst_again ((t.drop (3 + j + n), zs ++ [((y0.toNat : Int), (y1.toNat : Int), (y2.toNat : Int), txt)], q2, c2')) ?_ (FSub.of (by (try dsimp only); exact fsa)) (by (try dsimp only); exact hsa) ?_
              · exact ⟨by dsimp only; rw [List.length_drop, List.length_append, List.length_singleton]; omega, hN⟩
              · show (t.drop (3 + j + n)).length < t.length
                rw [List.length_drop]
                omega
        · rw [g1] at G0
          dsimp only [getV] at G0
          have B0 := bad (no fun p rest hp e => by
            have := (one_parts p hp (bodyB rest)).2.1
            rw [← e, g1] at this
            simp only [Prod.mk.injEq] at this
            omega)
          clear no hI hst g1
          (repeat' (first | (apply run_qg 1; (focus rfl); (focus exact wt); (focus rfl); (focus (exact qg1))) | (apply run_qg 4; (focus rfl); (focus exact wt); (focus rfl); (focus (first | exact qg4 | exact qs4))) | (apply run_qg 6; (focus rfl); (focus exact wt); (focus rfl); (focus (first | exact qs6 | exact qg6 | exact q_max rfl rfl rfl | exact q_sliceData rfl rfl (by omega) | exact q_sliceDataN rfl rfl | exact q_unsafeStringN rfl rfl rfl | exact q_cap_slice rfl rfl))) | (apply run_qg 12; (focus rfl); (focus exact wt); (focus rfl); (focus (first | exact qs12 | exact q_cutp rfl rfl rfl rfl (by omega) (by omega) | exact q_slice_cap rfl rfl rfl rfl (by omega)))) | refine cod_seq ?_ | refine cod_region ?_ | refine run_nil ?_ | refine pst_then ?_ | (apply cod_cond_t; (focus rfl)) | (apply cod_cond_f; (focus rfl)) | refine cod_block ?_ | refine cod_ret ?_ | refine cod_skip ?_ | refine pst_block_ret ?_ | refine pst_then_ret ?_ | (apply run_offs; (focus rfl); (focus rfl); (focus rfl)) | (apply run_osg 7; (focus rfl); (focus exact wt); (focus rfl); (focus (exact opr_call_ls (by rfl) (G0 ..) (by rfl) lpa)); (rintro _ _ ⟨rfl, rfl⟩))))
          exact pst_fin rfl (by exact resa) _ (B0) (by exact hsa)
        · rw [g1] at G0
          dsimp only [getV] at G0
          have B0 := bad (no fun p rest hp e => by
            have := (one_parts p hp (bodyB rest)).2.1
            rw [← e, g1] at this
            simp only [Prod.mk.injEq] at this
            omega)
          clear no hI hst g1
          (repeat' (first | (apply run_qg 1; (focus rfl); (focus exact wt); (focus rfl); (focus (exact qg1))) | (apply run_qg 4; (focus rfl); (focus exact wt); (focus rfl); (focus (first | exact qg4 | exact qs4))) | (apply run_qg 6; (focus rfl); (focus exact wt); (focus rfl); (focus (first | exact qs6 | exact qg6 | exact q_max rfl rfl rfl | exact q_sliceData rfl rfl (by omega) | exact q_sliceDataN rfl rfl | exact q_unsafeStringN rfl rfl rfl | exact q_cap_slice rfl rfl))) | (apply run_qg 12; (focus rfl); (focus exact wt); (focus rfl); (focus (first | exact qs12 | exact q_cutp rfl rfl rfl rfl (by omega) (by omega) | exact q_slice_cap rfl rfl rfl rfl (by omega)))) | refine cod_seq ?_ | refine cod_region ?_ | refine run_nil ?_ | refine pst_then ?_ | (apply cod_cond_t; (focus rfl)) | (apply cod_cond_f; (focus rfl)) | refine cod_block ?_ | refine cod_ret ?_ | refine cod_skip ?_ | refine pst_block_ret ?_ | refine pst_then_ret ?_ | (apply run_offs; (focus rfl); (focus rfl); (focus rfl)) | (apply run_osg 7; (focus rfl); (focus exact wt); (focus rfl); (focus (exact opr_call_ls (by rfl) (G0 ..) (by rfl) lpa)); (rintro _ _ ⟨rfl, rfl⟩))))
          exact pst_fin rfl (by exact resa) _ (B0) (by exact hsa)
  · have B0 := bad (by
      unfold readO
      rw [if_neg]
      rintro ⟨h1, h2, _, _⟩
      exact hh ⟨h1, h2⟩)
    (refine spec_enter Try.func33 Try.ntmps33 rfl rfl fun Fr => ?_; dsimp only [List.cons_append, List.nil_append, ini, Nat.reduceAdd])
    (repeat' (first | (apply run_qg 1; (focus rfl); (focus exact wt); (focus rfl); (focus (exact qg1))) | (apply run_qg 4; (focus rfl); (focus exact wt); (focus rfl); (focus (first | exact qg4 | exact qs4))) | (apply run_qg 6; (focus rfl); (focus exact wt); (focus rfl); (focus (first | exact qs6 | exact qg6 | exact q_max rfl rfl rfl | exact q_sliceData rfl rfl (by omega) | exact q_sliceDataN rfl rfl | exact q_unsafeStringN rfl rfl rfl | exact q_cap_slice rfl rfl))) | refine cod_seq ?_ | refine cod_region ?_ | refine run_nil ?_ | refine pst_then ?_ | (apply cod_cond_t; (focus rfl)) | refine cod_ret ?_ | refine pst_then_ret ?_ | (apply run_offs; (focus rfl); (focus rfl); (focus rfl)) | ((first | (apply run_lss; (rotate_left 2); (focus rfl)) | (apply run_leq; (rotate_left 2); (focus rfl)) | (apply run_gtr; (rotate_left 2); (focus rfl)) | (apply run_geq; (rotate_left 2); (focus rfl)) | (apply run_eql; (rotate_left 2); (focus rfl)) | (apply run_neq; (rotate_left 2); (focus rfl)) | (apply run_seq; (rotate_left 2); (focus rfl)) | (apply run_sneq; (rotate_left 2); (focus rfl))); (focus rfl); (focus rfl); (rotate_right 2); (focus exact wt); (focus rfl); (all_goals (intro h; dsimp only [upd])))))
    all_goals first | (exfalso; omega) | exact pst_fin rfl (by exact resa) _ (B0) (by exact hsa)
end Go.Proofs.Ytcbpeampjhegcaa.blob
