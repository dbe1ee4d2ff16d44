/-
  blob.Size and blob.Split: what they answer, and the walks.
-/
import Derived.Test.YtcaefeooneomnaaBlobWrite
namespace Go.Proofs.Ytcaefeooneomnaa.blob
open Go.RowKit kit sl Go.Proofs.Ytcaefeooneomnaa.fix Go.Proofs.Ytcaefeooneomnaa.fixl Go.Proofs.Ytcaefeooneomnaa.put Go.Proofs.Ytcaefeooneomnaa.get
set_option linter.unusedVariables false
theorem putB_one {n : Nat} (h : n < 128) : (putB n).length = 1 := by
  unfold putB
  rw [putF_small 10 n h]
  rfl
theorem putB_two {n : Nat} (h : ¬ n < 128) (h2 : n < 16384) : (putB n).length = 2 := by
  unfold putB
  rw [putF_big 9 n h, putF_small 9 (n / 128) (by omega)]
  rfl
theorem oneB_one {p : Blob} (h : p.2.2.2.length < 128) : (oneB p).length = p.2.2.2.length + 4 := by
  unfold oneB
  simp only [List.length_append, List.length_cons, List.length_nil, putB_one h]
  omega
theorem oneB_two {p : Blob} (h : ¬ p.2.2.2.length < 128) (h2 : p.2.2.2.length ≤ 600) : (oneB p).length = p.2.2.2.length + 5 := by
  unfold oneB
  simp only [List.length_append, List.length_cons, List.length_nil, putB_two h (by omega)]
  omega
theorem oneB_bd {p : Blob} (h2 : p.2.2.2.length ≤ 600) : 4 ≤ (oneB p).length ∧ (oneB p).length ≤ 605 := by
  by_cases h : p.2.2.2.length < 128
  · rw [oneB_one h]; omega
  · rw [oneB_two h h2]; omega
/-- blobs laid into cells, one behind the other -/
def grF : List Blob → Nat → Nat → List Int → List Int
  | [], n, _, out => if 0 < n then out ++ [(n : Int)] else out
  | p :: l, n, sz, out => if n = 40 ∨ 1000 < sz + (oneB p).length then grF l 1 (2 + (oneB p).length) (out ++ [(n : Int)]) else grF l (n + 1) (sz + (oneB p).length) out
def splitV (l : List Blob) : List Int × Int := if firstE l ≠ 0 then ([], firstE l) else (grF l 0 2 [], 0)
attribute [local irreducible] box own sl old bptr eptr Qt Opr Run Cod Pst Drn
set_option maxRecDepth 100000 in
set_option maxHeartbeats 8000000 in
theorem size_any (p : Blob) (h : p.2.2.2.length ≤ 600) : Ct Try.prog 28 [.agg #[.int .i64 p.1, .int .i64 p.2.1, .int .i64 p.2.2.1, .string (str p.2.2.2)]] [] fun v H' => v = .int .i64 (((oneB p).length : Nat) : Int) ∧ H' = [] := by
  by_cases h1 : p.2.2.2.length < 128
  · have e : (((oneB p).length : Nat) : Int) = 3 + (p.2.2.2.length : Int) + 1 := by rw [oneB_one h1]; omega
    rw [e]
    (refine spec_enter Try.func28 Try.ntmps28 rfl rfl fun Fr => ?_; dsimp only [List.cons_append, List.nil_append, ini, Nat.reduceAdd])
    (repeat' (first | (apply run_qg 1; (focus rfl); (focus exact wt); (focus rfl); (focus (exact qg1))) | (apply run_qg 2; (focus rfl); (focus exact wt); (focus rfl); (focus (first | exact qg2 | exact qs2))) | (apply run_qg 3; (focus rfl); (focus exact wt); (focus rfl); (focus (first | exact qg3 | exact qs3))) | (apply run_qg 4; (focus rfl); (focus exact wt); (focus rfl); (focus (first | exact qg4 | exact qs4))) | (apply run_qg 6; (focus rfl); (focus exact wt); (focus rfl); (focus (first | exact qs6 | exact qg6 | exact q_max rfl rfl rfl | exact q_sliceData rfl rfl (by omega) | exact q_sliceDataN rfl rfl | exact q_unsafeStringN rfl rfl rfl | exact q_cap_slice rfl rfl))) | refine cod_seq ?_ | refine cod_region ?_ | refine run_nil ?_ | refine pst_then ?_ | (apply cod_cond_f; (focus rfl)) | refine cod_ret ?_ | refine cod_skip ?_ | (apply run_osg 8; (focus rfl); (focus exact wt); (focus rfl); (focus (exact opr_box_agg rfl rfl)); (rintro _ _ ⟨b, rfl, rfl⟩))))
    exact pst_fin rfl (by exact resa) _ (⟨rfl, rfl⟩) (by exact hsa)
  · have e : (((oneB p).length : Nat) : Int) = 3 + (p.2.2.2.length : Int) + 1 + 1 := by rw [oneB_two h1 h]; omega
    rw [e]
    (refine spec_enter Try.func28 Try.ntmps28 rfl rfl fun Fr => ?_; dsimp only [List.cons_append, List.nil_append, ini, Nat.reduceAdd])
    (repeat' (first | (apply run_qg 1; (focus rfl); (focus exact wt); (focus rfl); (focus (exact qg1))) | (apply run_qg 2; (focus rfl); (focus exact wt); (focus rfl); (focus (first | exact qg2 | exact qs2))) | (apply run_qg 3; (focus rfl); (focus exact wt); (focus rfl); (focus (first | exact qg3 | exact qs3))) | (apply run_qg 4; (focus rfl); (focus exact wt); (focus rfl); (focus (first | exact qg4 | exact qs4))) | (apply run_qg 6; (focus rfl); (focus exact wt); (focus rfl); (focus (first | exact qs6 | exact qg6 | exact q_max rfl rfl rfl | exact q_sliceData rfl rfl (by omega) | exact q_sliceDataN rfl rfl | exact q_unsafeStringN rfl rfl rfl | exact q_cap_slice rfl rfl))) | refine cod_seq ?_ | refine cod_region ?_ | refine run_nil ?_ | refine pst_then ?_ | (apply cod_cond_t; (focus rfl)) | refine cod_ret ?_ | (apply run_osg 8; (focus rfl); (focus exact wt); (focus rfl); (focus (exact opr_box_agg rfl rfl)); (rintro _ _ ⟨b, rfl, rfl⟩))))
    exact pst_fin rfl (by exact resa) _ (⟨rfl, rfl⟩) (by exact hsa)
set_option maxRecDepth 100000 in
set_option maxHeartbeats 8000000 in
theorem split_any (q : Option Addr) (c : Nat) (l : List Blob) (hl : l.length ≤ 10000000000000) :
    Ct Try.prog 8 [.slice q l.length c] [sl 4 (.slice q l.length c) (l.map fBl)] fun v H' => ∃ q2 c2, v = .tuple #[.slice q2 (splitV l).1.length c2, .int .i64 (splitV l).2] ∧ H' = [own (.slice q2 (splitV l).1.length c2) 3 1 (splitV l).1.length (flat fI (splitV l).1)] := by
  obtain ⟨r, hr⟩ : ∃ r, grF l 0 2 [] = r := ⟨_, rfl⟩
  unfold splitV
  rw [hr]
  (refine spec_enter Try.func8 Try.ntmps8 rfl rfl fun Fr => ?_; dsimp only [List.cons_append, List.nil_append, ini, Nat.reduceAdd])
  (repeat' (first | (apply run_qg 1; (focus rfl); (focus exact wt); (focus rfl); (focus (exact qg1))) | (apply run_qg 6; (focus rfl); (focus exact wt); (focus rfl); (focus (first | exact qs6 | exact qg6 | exact q_max rfl rfl rfl | exact q_sliceData rfl rfl (by omega) | exact q_sliceDataN rfl rfl | exact q_unsafeStringN rfl rfl rfl | exact q_cap_slice rfl rfl))) | refine cod_seq ?_ | refine cod_region ?_ | refine run_nil ?_ | refine pst_then ?_ | refine cod_block ?_))
  refine cod_heap (heap_nil _ 3 1) ?_
  (refine cod_loop_rw (σ := Nat × Nat × Nat × Option Addr × Nat × List Int) (fun x => (x.1 ≤ l.length ∧ x.2.1 ≤ 40 ∧ x.2.2.1 ≤ 1000 ∧ x.2.2.2.2.2.length ≤ x.1) ∧ (x.2.1 = 0 → x.2.2.1 = 2) ∧ firstE (l.take x.1) = 0 ∧ grF (l.drop x.1) x.2.1 x.2.2.1 x.2.2.2.2.2 = r) (fun x => [(12, .int .i64 (x.1 : Int)), (4, .slice x.2.2.2.1 x.2.2.2.2.2.length x.2.2.2.2.1), (5, .int .i64 (x.2.1 : Int)), (6, .int .i64 (x.2.2.1 : Int))]) (fun x => [own (.slice x.2.2.2.1 x.2.2.2.2.2.length x.2.2.2.2.1) 3 1 x.2.2.2.2.2.length (flat fI x.2.2.2.2.2)]) _ (fun x => l.length - x.1) ((0, 0, 2, none, 0, [])) (by exact ⟨⟨Nat.zero_le _, by show 0 ≤ 40; decide, by show 2 ≤ 1000; decide, Nat.le_refl _⟩, fun _ => rfl, rfl, hr⟩) (by exact fsa) (by (first | exact HSub.of_picks_rest (by exact pca))) (fun ⟨k, n, sz, q2, c2, out⟩ ⟨⟨hk, hn, hsz, hol⟩, hnz, hf, hg⟩ => ?_); dsimp only [List.cons_append, List.nil_append])
  dsimp only at hk hn hsz hol hnz hf hg ⊢
  rcases get_or l k with ⟨p, hp, hlt⟩ | hge
  · have CK := check_p p
    have hdr : l.drop k = p :: l.drop (k + 1) := by
      rw [List.drop_eq_getElem_cons hlt, (List.getElem?_eq_some_iff.1 hp).2]
    by_cases hz : blobE p = 0
    · have hb := blobE_zero hz
      rw [hz] at CK
      have SZ := size_any p hb.2.2.2.2.2.2
      have hob := oneB_bd hb.2.2.2.2.2.2
      have hf2 := firstE_next hp hf hz
      rw [hdr, grF] at hg
      generalize (oneB p).length = ol at *
      by_cases hfull : n = 40 ∨ 1000 < sz + ol
      · rw [if_pos hfull] at hg
        have hn0 : n ≠ 0 := fun e => by have := hnz e; omega
        by_cases hn40 : n = 40
        · (repeat' (first | (apply run_qg 1; (focus rfl); (focus exact wt); (focus rfl); (focus (exact qg1))) | (apply run_qg 2; (focus rfl); (focus exact wt); (focus rfl); (focus (first | exact qg2 | exact qs2))) | (apply run_qg 3; (focus rfl); (focus exact wt); (focus rfl); (focus (first | exact qg3 | exact qs3))) | (apply run_qg 4; (focus rfl); (focus exact wt); (focus rfl); (focus (first | exact qg4 | exact qs4))) | refine cod_seq ?_ | refine cod_region ?_ | refine run_nil ?_ | refine pst_then ?_ | (apply cod_cond_t; (focus rfl)) | (apply cod_cond_f; (focus rfl)) | refine cod_block ?_ | refine cod_skip ?_ | (apply run_osg 8; (focus rfl); (focus exact wt); (focus rfl); (focus (exact opr_new rfl)); (rintro _ _ ⟨b, rfl, rfl⟩)) | (apply run_ong 9; (focus rfl); (focus exact wt); (focus (exact opr_store_box_agg rfl rfl rfl (by exact pka) rfl rfl rfl (by exact spla))); (rintro _ _ ⟨rfl, rfl⟩)) | (apply run_osg 10; (focus rfl); (focus exact wt); (focus rfl); (focus (exact opr_buildSlice rfl rfl rfl (by exact blda) rfl rfl (by decide) rfl)); (rintro _ _ ⟨q, rfl, rfl⟩)) | (apply run_offs; (focus rfl); (focus rfl); (focus rfl)) | (apply run_osg 7; (focus rfl); (focus exact wt); (focus rfl); (focus (exact opr_call_ls (by rfl) (CK ..) (by rfl) lpa)); (rintro _ _ ⟨rfl, rfl⟩))))
          refine run_os wt rfl (by first | exact opr_append_lit0 (fI) [(n : Int)] rfl rfl rfl (by exact pka) (by rfl) (by rfl) (by intro _; rfl) (by (first | exact one_fS | exact one_fI | exact one_fB | exact one_fP | exact one_fIIS | exact one_fIIIS | exact one_fII | exact one_fSI | exact one_fIIU | exact one_fY | exact one_fBl | exact one_fT | exact one_fE | assumption)) rfl (by simp only [List.length_cons, List.length_nil]; omega) (by (unfold maxLen); simp only [List.length_cons, List.length_nil]; omega) | exact opr_append_lit (fI) [(n : Int)] rfl rfl rfl (by exact pka) (by exact pka) (by rfl) (by rfl) (by first | rfl | omega) (by intro _; rfl) (by (first | exact one_fS | exact one_fI | exact one_fB | exact one_fP | exact one_fIIS | exact one_fIIIS | exact one_fII | exact one_fSI | exact one_fIIU | exact one_fY | exact one_fBl | exact one_fT | exact one_fE | assumption)) rfl (by simp only [List.length_cons, List.length_nil]; omega) (by (unfold maxLen); simp only [List.length_cons, List.length_nil]; omega)) ?_
          rintro _ _ ⟨q5, c5, rfl, rfl⟩
          (repeat' (first | (apply run_qg 1; (focus rfl); (focus exact wt); (focus rfl); (focus (exact qg1))) | (apply run_qg 2; (focus rfl); (focus exact wt); (focus rfl); (focus (first | exact qg2 | exact qs2))) | (apply run_qg 4; (focus rfl); (focus exact wt); (focus rfl); (focus (first | exact qg4 | exact qs4))) | refine cod_seq ?_ | refine cod_region ?_ | refine run_nil ?_ | refine pst_then ?_ | refine pst_block ?_ | (apply run_osg 7; (focus rfl); (focus exact wt); (focus rfl); (focus (exact opr_call_ls (by rfl) (SZ ..) (by rfl) lpa)); (rintro _ _ ⟨rfl, rfl⟩))))
          refine pst_again ((k + 1, 1, 2 + ol, q5, c5, out ++ [(n : Int)])) ?_ (FSub.of (by (try dsimp only); exact fsa)) (by (try dsimp only); exact hsa) ?_
          · exact ⟨⟨hlt, by dsimp only; omega, by dsimp only; omega, by dsimp only; rw [List.length_append, List.length_singleton]; omega⟩, fun h => absurd h Nat.one_ne_zero, hf2, hg⟩
          · dsimp only; omega
        · have hbig : 1000 < sz + ol := hfull.resolve_left hn40
          (repeat' (first | (apply run_qg 1; (focus rfl); (focus exact wt); (focus rfl); (focus (exact qg1))) | (apply run_qg 2; (focus rfl); (focus exact wt); (focus rfl); (focus (first | exact qg2 | exact qs2))) | (apply run_qg 3; (focus rfl); (focus exact wt); (focus rfl); (focus (first | exact qg3 | exact qs3))) | (apply run_qg 4; (focus rfl); (focus exact wt); (focus rfl); (focus (first | exact qg4 | exact qs4))) | refine cod_seq ?_ | refine cod_region ?_ | refine run_nil ?_ | refine pst_then ?_ | (apply cod_cond_t; (focus rfl)) | (apply cod_cond_f; (focus rfl)) | refine cod_block ?_ | refine cod_skip ?_ | (apply run_osg 8; (focus rfl); (focus exact wt); (focus rfl); (focus (exact opr_new rfl)); (rintro _ _ ⟨b, rfl, rfl⟩)) | (apply run_ong 9; (focus rfl); (focus exact wt); (focus (exact opr_store_box_agg rfl rfl rfl (by exact pka) rfl rfl rfl (by exact spla))); (rintro _ _ ⟨rfl, rfl⟩)) | (apply run_osg 10; (focus rfl); (focus exact wt); (focus rfl); (focus (exact opr_buildSlice rfl rfl rfl (by exact blda) rfl rfl (by decide) rfl)); (rintro _ _ ⟨q, rfl, rfl⟩)) | (apply run_osg 7; (focus rfl); (focus exact wt); (focus rfl); (focus (exact opr_call_ls (by rfl) (CK ..) (by rfl) lpa)); (rintro _ _ ⟨rfl, rfl⟩)) | (apply run_osg 7; (focus rfl); (focus exact wt); (focus rfl); (focus (exact opr_call_ls (by rfl) (SZ ..) (by rfl) lpa)); (rintro _ _ ⟨rfl, rfl⟩))))
          refine run_os wt rfl (by first | exact opr_append_lit0 (fI) [(n : Int)] rfl rfl rfl (by exact pka) (by rfl) (by rfl) (by intro _; rfl) (by (first | exact one_fS | exact one_fI | exact one_fB | exact one_fP | exact one_fIIS | exact one_fIIIS | exact one_fII | exact one_fSI | exact one_fIIU | exact one_fY | exact one_fBl | exact one_fT | exact one_fE | assumption)) rfl (by simp only [List.length_cons, List.length_nil]; omega) (by (unfold maxLen); simp only [List.length_cons, List.length_nil]; omega) | exact opr_append_lit (fI) [(n : Int)] rfl rfl rfl (by exact pka) (by exact pka) (by rfl) (by rfl) (by first | rfl | omega) (by intro _; rfl) (by (first | exact one_fS | exact one_fI | exact one_fB | exact one_fP | exact one_fIIS | exact one_fIIIS | exact one_fII | exact one_fSI | exact one_fIIU | exact one_fY | exact one_fBl | exact one_fT | exact one_fE | assumption)) rfl (by simp only [List.length_cons, List.length_nil]; omega) (by (unfold maxLen); simp only [List.length_cons, List.length_nil]; omega)) ?_
          rintro _ _ ⟨q5, c5, rfl, rfl⟩
          (repeat' (first | (apply run_qg 1; (focus rfl); (focus exact wt); (focus rfl); (focus (exact qg1))) | (apply run_qg 2; (focus rfl); (focus exact wt); (focus rfl); (focus (first | exact qg2 | exact qs2))) | (apply run_qg 4; (focus rfl); (focus exact wt); (focus rfl); (focus (first | exact qg4 | exact qs4))) | refine cod_seq ?_ | refine cod_region ?_ | refine run_nil ?_ | refine pst_then ?_ | refine pst_block ?_ | (apply run_osg 7; (focus rfl); (focus exact wt); (focus rfl); (focus (exact opr_call_ls (by rfl) (SZ ..) (by rfl) lpa)); (rintro _ _ ⟨rfl, rfl⟩))))
          refine pst_again ((k + 1, 1, 2 + ol, q5, c5, out ++ [(n : Int)])) ?_ (FSub.of (by (try dsimp only); exact fsa)) (by (try dsimp only); exact hsa) ?_
          · exact ⟨⟨hlt, by dsimp only; omega, by dsimp only; omega, by dsimp only; rw [List.length_append, List.length_singleton]; omega⟩, fun h => absurd h Nat.one_ne_zero, hf2, hg⟩
          · dsimp only; omega
      · rw [if_neg hfull] at hg
        (repeat' (first | (apply run_qg 1; (focus rfl); (focus exact wt); (focus rfl); (focus (exact qg1))) | (apply run_qg 2; (focus rfl); (focus exact wt); (focus rfl); (focus (first | exact qg2 | exact qs2))) | (apply run_qg 3; (focus rfl); (focus exact wt); (focus rfl); (focus (first | exact qg3 | exact qs3))) | (apply run_qg 4; (focus rfl); (focus exact wt); (focus rfl); (focus (first | exact qg4 | exact qs4))) | refine cod_seq ?_ | refine cod_region ?_ | refine run_nil ?_ | refine pst_then ?_ | (apply cod_cond_t; (focus rfl)) | (apply cod_cond_f; (focus rfl)) | refine cod_block ?_ | refine cod_skip ?_ | refine pst_block ?_ | (apply run_osg 8; (focus rfl); (focus exact wt); (focus rfl); (focus (exact opr_new rfl)); (rintro _ _ ⟨b, rfl, rfl⟩)) | (apply run_ong 9; (focus rfl); (focus exact wt); (focus (exact opr_store_box_agg rfl rfl rfl (by exact pka) rfl rfl rfl (by exact spla))); (rintro _ _ ⟨rfl, rfl⟩)) | (apply run_osg 7; (focus rfl); (focus exact wt); (focus rfl); (focus (exact opr_call_ls (by rfl) (CK ..) (by rfl) lpa)); (rintro _ _ ⟨rfl, rfl⟩)) | (apply run_osg 7; (focus rfl); (focus exact wt); (focus rfl); (focus (exact opr_call_ls (by rfl) (SZ ..) (by rfl) lpa)); (rintro _ _ ⟨rfl, rfl⟩))))
        refine pst_again ((k + 1, n + 1, sz + ol, q2, c2, out)) ?_ (FSub.of (by (try dsimp only); exact fsa)) (by (try dsimp only); exact hsa) ?_
        · exact ⟨⟨hlt, by dsimp only; omega, by dsimp only; omega, by dsimp only; omega⟩, fun h => absurd h (Nat.succ_ne_zero n), hf2, hg⟩
        · dsimp only; omega
    · rw [if_pos (by rw [firstE_at hp hf hz]; exact hz), firstE_at hp hf hz]
      (repeat' (first | (apply run_qg 1; (focus rfl); (focus exact wt); (focus rfl); (focus (exact qg1))) | (apply run_qg 2; (focus rfl); (focus exact wt); (focus rfl); (focus (first | exact qg2 | exact qs2))) | (apply run_qg 3; (focus rfl); (focus exact wt); (focus rfl); (focus (first | exact qg3 | exact qs3))) | (apply run_qg 4; (focus rfl); (focus exact wt); (focus rfl); (focus (first | exact qg4 | exact qs4))) | refine cod_seq ?_ | refine cod_region ?_ | refine run_nil ?_ | refine pst_then ?_ | (apply cod_cond_t; (focus rfl)) | refine cod_block ?_ | refine cod_ret ?_ | refine cod_skip ?_ | refine pst_block_ret ?_ | refine pst_then_ret ?_ | (apply run_osg 8; (focus rfl); (focus exact wt); (focus rfl); (focus (exact opr_new rfl)); (rintro _ _ ⟨b, rfl, rfl⟩)) | (apply run_ong 9; (focus rfl); (focus exact wt); (focus (exact opr_store_box_agg rfl rfl rfl (by exact pka) rfl rfl rfl (by exact spla))); (rintro _ _ ⟨rfl, rfl⟩)) | (apply run_osg 7; (focus rfl); (focus exact wt); (focus rfl); (focus (exact opr_call_ls (by rfl) (CK ..) (by rfl) lpa)); (rintro _ _ ⟨rfl, rfl⟩))))
      exact pst_fin rfl (by exact resa) _ (⟨none, 0, rfl, rfl⟩) (by exact hsa)
  · have hkl : k = l.length := by omega
    subst hkl
    rw [List.take_length] at hf
    rw [if_neg (by rw [hf]; exact fun h => h rfl)]
    rw [List.drop_length, grF] at hg
    by_cases hn0 : 0 < n
    · rw [if_pos hn0] at hg
      subst hg
      (repeat' (first | (apply run_qg 1; (focus rfl); (focus exact wt); (focus rfl); (focus (exact qg1))) | (apply run_qg 4; (focus rfl); (focus exact wt); (focus rfl); (focus (first | exact qg4 | exact qs4))) | refine cod_seq ?_ | refine cod_region ?_ | refine run_nil ?_ | refine pst_then ?_ | (apply cod_cond_t; (focus rfl)) | (apply cod_cond_f; (focus rfl)) | refine cod_exit ?_ | refine pst_block_here ?_ | refine pst_then_exit ?_ | (apply run_osg 10; (focus rfl); (focus exact wt); (focus rfl); (focus (exact opr_buildSlice rfl rfl rfl (by exact blda) rfl rfl (by decide) rfl)); (rintro _ _ ⟨q, rfl, rfl⟩))))
      refine run_os wt rfl (by first | exact opr_append_lit0 (fI) [(n : Int)] rfl rfl rfl (by exact pka) (by rfl) (by rfl) (by intro _; rfl) (by (first | exact one_fS | exact one_fI | exact one_fB | exact one_fP | exact one_fIIS | exact one_fIIIS | exact one_fII | exact one_fSI | exact one_fIIU | exact one_fY | exact one_fBl | exact one_fT | exact one_fE | assumption)) rfl (by simp only [List.length_cons, List.length_nil]; omega) (by (unfold maxLen); simp only [List.length_cons, List.length_nil]; omega) | exact opr_append_lit (fI) [(n : Int)] rfl rfl rfl (by exact pka) (by exact pka) (by rfl) (by rfl) (by first | rfl | omega) (by intro _; rfl) (by (first | exact one_fS | exact one_fI | exact one_fB | exact one_fP | exact one_fIIS | exact one_fIIIS | exact one_fII | exact one_fSI | exact one_fIIU | exact one_fY | exact one_fBl | exact one_fT | exact one_fE | assumption)) rfl (by simp only [List.length_cons, List.length_nil]; omega) (by (unfold maxLen); simp only [List.length_cons, List.length_nil]; omega)) ?_
      rintro _ _ ⟨q5, c5, rfl, rfl⟩
      (repeat' (first | (apply run_qg 1; (focus rfl); (focus exact wt); (focus rfl); (focus (exact qg1))) | refine cod_seq ?_ | refine cod_region ?_ | refine run_nil ?_ | refine pst_then ?_ | refine cod_ret ?_))
      exact pst_fin rfl (by exact resa) _ (⟨q5, c5, rfl, rfl⟩) (by exact hsa)
    · rw [if_neg hn0] at hg
      subst hg
      (repeat' (first | (apply run_qg 1; (focus rfl); (focus exact wt); (focus rfl); (focus (exact qg1))) | (apply run_qg 4; (focus rfl); (focus exact wt); (focus rfl); (focus (first | exact qg4 | exact qs4))) | refine cod_seq ?_ | refine cod_region ?_ | refine run_nil ?_ | refine pst_then ?_ | (apply cod_cond_f; (focus rfl)) | refine cod_exit ?_ | refine cod_ret ?_ | refine cod_skip ?_ | refine pst_block_here ?_ | refine pst_then_exit ?_))
      exact pst_fin rfl (by exact resa) _ (⟨q2, c2, rfl, rfl⟩) (by exact hsa)
end Go.Proofs.Ytcaefeooneomnaa.blob
