/-
  huff: pairs: the walk.
-/
import Derived.Test.YtppnaofebkpbkaaHuffX
namespace Go.Proofs.Ytppnaofebkpbkaa.huff
open Go.RowKit kit sl Go.Proofs.Ytppnaofebkpbkaa.srt Go.Proofs.Ytppnaofebkpbkaa.hsort Go.Proofs.Ytppnaofebkpbkaa.pm
set_option linter.unusedVariables false
theorem lot_mem {x : XC} {tab : List XC} (h : x ∈ tab) : (slV x, (sI x).map fI) ∈ tab.map lotI := List.mem_map_of_mem (f := lotI) h
theorem pairs_cons (a b : XC) (l : List XC) : pairs ((a :: b :: l).map stp) = (a.1 + b.1, a.2.1 ++ b.2.1) :: pairs (l.map stp) := rfl
attribute [local irreducible] box own sl old bptr eptr Qt Opr Run Cod Pst Drn
theorem concat_x (q : Option Addr) (w : Int) (a b : XC) (ha : a.2.1.length ≤ 1000000) (hb : b.2.1.length ≤ 1000000) :
    Ct Try.prog 34 [.slice q 2 2] [own (.slice q 2 2) 22 1 2 [slV a, slV b], sl 1 (slV a) ((sI a).map fI), sl 1 (slV b) ((sI b).map fI)] fun v H' => ∃ q' c', v = .slice q' (a.2.1 ++ b.2.1).length c' ∧ H' = [rowI (w, a.2.1 ++ b.2.1, q', c')] :=
  ct_imp (Go.Proofs.Ytppnaofebkpbkaa.ints.concat_ct q 22 (slV a) (slV b) (sI a) (sI b) (by unfold sI; rw [List.length_map, List.length_map]; omega)) fun v H' ⟨q', c', h1, h2⟩ => by
    have e : sI a ++ sI b = sI (w, a.2.1 ++ b.2.1, q', c') := by unfold sI; rw [List.map_append]
    have el : (sI a ++ sI b).length = (a.2.1 ++ b.2.1).length := by unfold sI; simp
    rw [el] at h1 h2
    rw [e] at h2
    exact ⟨q', c', h1, h2⟩
set_option maxRecDepth 100000 in
set_option maxHeartbeats 8000000 in
theorem pairs_any (qa : Option Addr) (ca : Nat) (X tab : List XC) (hX : X.length ≤ 1000000) (hm : ∀ x ∈ X, x ∈ tab) (hw : ∀ x ∈ X, 0 ≤ x.1 ∧ x.1 ≤ 1000000000000) (hs : ∀ x ∈ X, x.2.1.length ≤ 1000000) :
    Ct Try.prog 24 [.slice qa X.length ca] [sl 2 (.slice qa X.length ca) (X.map fX), many 1 (tab.map lotI)]
      fun v H' => ∃ (ys : List XC) (q : Option Addr) (c : Nat), ys.map stp = pairs (X.map stp) ∧ v = .slice q ys.length c ∧ H' = [own (.slice q ys.length c) 44 2 ys.length (flat fX ys), bundle (ys.reverse.map rowI)] := by
  have hone := one_fX
  (refine spec_enter Try.func24 Try.ntmps24 rfl rfl fun Fr => ?_; dsimp only [List.cons_append, List.nil_append, ini, Nat.reduceAdd])
  (repeat' (first | (apply run_qg 1; (focus rfl); (focus exact wt); (focus rfl); (focus (exact qg1))) | refine cod_seq ?_ | refine cod_region ?_ | refine run_nil ?_ | refine pst_then ?_ | refine cod_block ?_))
  refine cod_heap (heap_nil _ 44 2) ?_
  refine cod_heap (bundle_nil _) ?_
  (refine cod_loop_rw (σ := Nat × List XC × Option Addr × Nat) (fun s => (s.1 = 2 * s.2.1.length ∧ s.1 ≤ X.length + 1) ∧ pairs (X.map stp) = s.2.1.map stp ++ pairs ((X.drop s.1).map stp)) (fun s => [(4, .int .i64 (s.1 : Int)), (3, .slice s.2.2.1 s.2.1.length s.2.2.2)]) (fun s => [own (.slice s.2.2.1 s.2.1.length s.2.2.2) 44 2 s.2.1.length (flat fX s.2.1), bundle (s.2.1.reverse.map rowI)]) _ (fun s => X.length + 1 - s.1) ((0, [], none, 0)) (by exact ⟨⟨rfl, Nat.zero_le _⟩, rfl⟩) (by exact fsa) (by (first | exact HSub.of_picks_rest (by exact pca))) (fun ⟨i, ys, q, c⟩ ⟨⟨hi, hi2⟩, hI⟩ => ?_); dsimp only [List.cons_append, List.nil_append])
  dsimp only at hi hi2 hI
  by_cases hlt : i + 1 < X.length
  · obtain ⟨a, hxa⟩ : ∃ x, X[i]? = some x := ⟨_, List.getElem?_eq_getElem (by omega)⟩
    obtain ⟨b, hxb⟩ : ∃ x, X[i + 1]? = some x := ⟨_, List.getElem?_eq_getElem (by omega)⟩
    have ed : X.drop i = a :: b :: X.drop (i + 2) := by
      obtain ⟨h1, h2⟩ := List.getElem?_eq_some_iff.1 hxa
      obtain ⟨h3, h4⟩ := List.getElem?_eq_some_iff.1 hxb
      rw [List.drop_eq_getElem_cons h1, h2, List.drop_eq_getElem_cons h3, h4]
    have hma := hm a (List.mem_of_getElem? hxa)
    have hmb := hm b (List.mem_of_getElem? hxb)
    have hwa := hw a (List.mem_of_getElem? hxa)
    have hwb := hw b (List.mem_of_getElem? hxb)
    have hla := lot_mem hma
    have hlb := lot_mem hmb
    have CC := fun q => concat_x q (a.1 + b.1) a b (hs a (List.mem_of_getElem? hxa)) (hs b (List.mem_of_getElem? hxb))
    rw [ed, pairs_cons] at hI
    have hi1 : (i : Int) + 1 = ((i + 1 : Nat) : Int) := by omega
    have hi2' : (i : Int) + 2 = ((i + 2 : Nat) : Int) := by omega
    clear ed
    (repeat' (first | (apply run_qg 1; (focus rfl); (focus exact wt); (focus rfl); (focus (exact qg1))) | (apply run_qg 4; (focus rfl); (focus exact wt); (focus rfl); (focus (first | exact qg4 | exact qs4))) | (apply run_qg 6; (focus rfl); (focus exact wt); (focus rfl); (focus (first | exact qs6 | exact qg6 | exact q_max rfl rfl rfl | exact q_sliceData rfl rfl (by omega) | exact q_sliceDataN rfl rfl | exact q_unsafeStringN rfl rfl rfl | exact q_cap_slice rfl rfl))) | refine cod_seq ?_ | refine cod_region ?_ | refine run_nil ?_ | refine pst_then ?_ | (apply cod_cond_t; (focus rfl)) | refine cod_block ?_ | refine cod_skip ?_))
    refine cod_cut_drop 0 (σ := Nat × Nat) (fun _ => True) (fun y => [(5, bptr y.1 0), (6, bptr y.2 0)]) (fun y => [box y.1 (fX a) 44, box y.2 (fX b) 44]) ?_ ?_ <;> dsimp only [List.drop]
    · (refine cod_drawn_ks (Hq := [_]) [2] [] rfl (by kernel_rfl) (by simp only [List.length_cons, List.length_nil, Nat.reduceAdd]; rfl) ?_)
      (repeat' (first | (apply drnK_take 1; (focus rfl); (focus rfl); (focus exact wt); (focus (decide +kernel)); (focus exact hsq); (focus rfl); (focus (exact qg1))) | (apply drnK_take 2; (focus rfl); (focus rfl); (focus exact wt); (focus (decide +kernel)); (focus exact hsq); (focus rfl); (focus (first | exact qg2 | exact qs2))) | (apply drnK_take 3; (focus rfl); (focus rfl); (focus exact wt); (focus (decide +kernel)); (focus exact hsq); (focus rfl); (focus (first | exact qg3 | exact qs3))) | (apply drnK_take 4; (focus rfl); (focus rfl); (focus exact wt); (focus (decide +kernel)); (focus exact hsq); (focus rfl); (focus (first | exact qg4 | exact qs4))) | (apply drnK_done; (focus (decide +kernel))) | (apply drnK_skip; (focus rfl)) | (apply drnK_wrap; (focus rfl))))
      (refine drnK_at 9 ?_; refine drnK_two 10 (by kernel_rfl) ?_ ?_)
      · ((first | refine drnI_s 1 9 (by rfl) wt (by rfl) (by exact opr_new rfl) ?_ | refine drnI_n 1 9 (by rfl) wt (by exact opr_new rfl) ?_); rintro _ _ ⟨b1, rfl, rfl⟩; refine ⟨(by first | exact fun h => absurd h (by decide) | exact fun _ => hsq), ?_⟩; (try dsimp only [List.cons_append, List.nil_append]))
        (repeat' (first | (apply drnK_ones 8; (focus rfl); (focus rfl); (focus (decide +kernel)); (focus exact wt); (focus rfl); (focus (exact opr_new rfl)); (rintro _ _ ⟨b, rfl, rfl⟩; refine ⟨(by first | exact fun h => absurd h (by decide) | exact fun _ => hsq), ?_⟩)) | (apply drnK_onen 9; (focus rfl); (focus rfl); (focus (decide +kernel)); (focus exact wt); (focus (exact opr_store_box_agg rfl rfl rfl (by exact pka) rfl rfl rfl (by exact spla))); (rintro _ _ ⟨rfl, rfl⟩; refine ⟨(by first | exact fun h => absurd h (by decide) | exact fun _ => hsq), ?_⟩)) | (apply drnK_end; (focus (decide +kernel))) | (apply drnK_done; (focus (decide +kernel)))))
        exact pst_cut ((_, _)) (by trivial) (FSub.of fsa) hsa
      · ((first | refine drnI_s 1 10 (by rfl) wt (by rfl) (by exact opr_new rfl) ?_ | refine drnI_n 1 10 (by rfl) wt (by exact opr_new rfl) ?_); rintro _ _ ⟨b2, rfl, rfl⟩; refine ⟨(by first | exact fun h => absurd h (by decide) | exact fun _ => hsq), ?_⟩; (try dsimp only [List.cons_append, List.nil_append]))
        (repeat' (first | (apply drnK_ones 8; (focus rfl); (focus rfl); (focus (decide +kernel)); (focus exact wt); (focus rfl); (focus (exact opr_new rfl)); (rintro _ _ ⟨b, rfl, rfl⟩; refine ⟨(by first | exact fun h => absurd h (by decide) | exact fun _ => hsq), ?_⟩)) | (apply drnK_onen 9; (focus rfl); (focus rfl); (focus (decide +kernel)); (focus exact wt); (focus (exact opr_store_box_agg rfl rfl rfl (by exact pka) rfl rfl rfl (by exact spla))); (rintro _ _ ⟨rfl, rfl⟩; refine ⟨(by first | exact fun h => absurd h (by decide) | exact fun _ => hsq), ?_⟩)) | (apply drnK_end; (focus (decide +kernel))) | (apply drnK_done; (focus (decide +kernel)))))
        exact pst_cut ((_, _)) (by trivial) (FSub.of fsa) hsa
    · rintro ⟨b5, b6⟩ _
      dsimp only [List.cons_append, List.nil_append]
      (repeat' (first | refine pst_then ?_))
      (refine cod_drawn_ks (Hq := [_, _]) [0, 1] [] rfl (by kernel_rfl) (by simp only [List.length_cons, List.length_nil, Nat.reduceAdd]; rfl) ?_)
      (repeat' (first | (apply drnK_take 1; (focus rfl); (focus rfl); (focus exact wt); (focus (decide +kernel)); (focus exact hsq); (focus rfl); (focus (exact qg1))) | (apply drnK_take 2; (focus rfl); (focus rfl); (focus exact wt); (focus (decide +kernel)); (focus exact hsq); (focus rfl); (focus (first | exact qg2 | exact qs2))) | (apply drnK_take 3; (focus rfl); (focus rfl); (focus exact wt); (focus (decide +kernel)); (focus exact hsq); (focus rfl); (focus (first | exact qg3 | exact qs3))) | (apply drnK_take 4; (focus rfl); (focus rfl); (focus exact wt); (focus (decide +kernel)); (focus exact hsq); (focus rfl); (focus (first | exact qg4 | exact qs4))) | (apply drnK_done; (focus (decide +kernel))) | (apply drnK_skip; (focus rfl)) | (apply drnK_wrap; (focus rfl))))
      (refine drnK_at 10 ?_; (first | refine drnK_ones _ (by rfl) (by rfl) (by kernel_rfl) wt (by rfl) (by exact opr_buildSlice rfl rfl rfl (by exact blda) rfl rfl (by decide) rfl) ?_ | refine drnK_onen _ (by rfl) (by rfl) (by kernel_rfl) wt (by exact opr_buildSlice rfl rfl rfl (by exact blda) rfl rfl (by decide) rfl) ?_); rintro _ _ ⟨q3, rfl, rfl⟩; refine ⟨(by first | exact fun h => absurd h (by decide) | exact fun _ => hsq), ?_⟩; (try dsimp only [List.cons_append, List.nil_append]))
      (refine drnK_at 11 ?_; refine drnK_ones _ (by rfl) (by rfl) (by kernel_rfl) wt (by rfl) (opr_call_l rfl (CC _) rfl (Lp.out pka (Lp.view (sl_excl _ _ _) (Lp.view (sl_excl _ _ _) Lp.nil (view_many pka hlb)) (view_many pka hla)))) ?_; rintro _ _ ⟨_, ⟨q4, c4, rfl, rfl⟩, rfl⟩; refine ⟨(by first | exact fun h => absurd h (by decide) | exact fun _ => hsq), ?_⟩; (try dsimp only [List.cons_append, List.nil_append]))
      (repeat' (first | (apply drnK_take 5; (focus rfl); (focus rfl); (focus exact wt); (focus (decide +kernel)); (focus exact hsq); (focus rfl); (focus (exact qg5))) | (apply drnK_skip; (focus rfl))))
      (refine drnK_at 13 ?_; (first | refine drnK_ones _ (by rfl) (by rfl) (by kernel_rfl) wt (by rfl) (by exact opr_buildSlice rfl rfl rfl (by exact blda) rfl rfl (by decide) rfl) ?_ | refine drnK_onen _ (by rfl) (by rfl) (by kernel_rfl) wt (by exact opr_buildSlice rfl rfl rfl (by exact blda) rfl rfl (by decide) rfl) ?_); rintro _ _ ⟨q5, rfl, rfl⟩; refine ⟨(by first | exact fun h => absurd h (by decide) | exact fun _ => hsq), ?_⟩; (try dsimp only [List.cons_append, List.nil_append]))
      (refine drnK_at 14 ?_; (first | refine drnK_ones _ (by rfl) (by rfl) (by kernel_rfl) wt (by rfl) (by exact (by first | exact opr_append_lit0 (fX) [((a.1 + b.1, a.2.1 ++ b.2.1, q4, c4) : XC)] rfl rfl rfl (by exact pka) (by rfl) (by rfl) (by intro _; rfl) (by (first | exact one_fS | exact one_fI | exact one_fB | exact one_fP | exact one_fIIS | exact one_fIIIS | exact one_fII | exact one_fSI | exact one_fIIU | exact one_fY | exact one_fBl | exact one_fT | exact one_fE | assumption)) rfl (by simp only [List.length_cons, List.length_nil]; omega) (by (unfold maxLen); simp only [List.length_cons, List.length_nil]; omega) | exact opr_append_lit (fX) [((a.1 + b.1, a.2.1 ++ b.2.1, q4, c4) : XC)] rfl rfl rfl (by exact pka) (by exact pka) (by rfl) (by rfl) (by first | rfl | omega) (by intro _; rfl) (by (first | exact one_fS | exact one_fI | exact one_fB | exact one_fP | exact one_fIIS | exact one_fIIIS | exact one_fII | exact one_fSI | exact one_fIIU | exact one_fY | exact one_fBl | exact one_fT | exact one_fE | assumption)) rfl (by simp only [List.length_cons, List.length_nil]; omega) (by (unfold maxLen); simp only [List.length_cons, List.length_nil]; omega))) ?_ | refine drnK_onen _ (by rfl) (by rfl) (by kernel_rfl) wt (by exact (by first | exact opr_append_lit0 (fX) [((a.1 + b.1, a.2.1 ++ b.2.1, q4, c4) : XC)] rfl rfl rfl (by exact pka) (by rfl) (by rfl) (by intro _; rfl) (by (first | exact one_fS | exact one_fI | exact one_fB | exact one_fP | exact one_fIIS | exact one_fIIIS | exact one_fII | exact one_fSI | exact one_fIIU | exact one_fY | exact one_fBl | exact one_fT | exact one_fE | assumption)) rfl (by simp only [List.length_cons, List.length_nil]; omega) (by (unfold maxLen); simp only [List.length_cons, List.length_nil]; omega) | exact opr_append_lit (fX) [((a.1 + b.1, a.2.1 ++ b.2.1, q4, c4) : XC)] rfl rfl rfl (by exact pka) (by exact pka) (by rfl) (by rfl) (by first | rfl | omega) (by intro _; rfl) (by (first | exact one_fS | exact one_fI | exact one_fB | exact one_fP | exact one_fIIS | exact one_fIIIS | exact one_fII | exact one_fSI | exact one_fIIU | exact one_fY | exact one_fBl | exact one_fT | exact one_fE | assumption)) rfl (by simp only [List.length_cons, List.length_nil]; omega) (by (unfold maxLen); simp only [List.length_cons, List.length_nil]; omega))) ?_); rintro _ _ ⟨q6, c6, rfl, rfl⟩; refine ⟨(by first | exact fun h => absurd h (by decide) | exact fun _ => hsq), ?_⟩; (try dsimp only [List.cons_append, List.nil_append]))
      (repeat' (first | (apply run_qg 1; (focus rfl); (focus exact wt); (focus rfl); (focus (exact qg1))) | (apply run_qg 4; (focus rfl); (focus exact wt); (focus rfl); (focus (first | exact qg4 | exact qs4))) | refine cod_region ?_ | refine run_nil ?_ | refine pst_then ?_ | refine pst_block ?_ | (apply drnK_take 1; (focus rfl); (focus rfl); (focus exact wt); (focus (decide +kernel)); (focus exact hsq); (focus rfl); (focus (exact qg1))) | (apply drnK_end; (focus (decide +kernel)))))
      rw [hi2']
      refine pst_weak (FSub.refl _) (bundle_in (e := rowI (a.1 + b.1, a.2.1 ++ b.2.1, q4, c4)) pka pka (rowI_x _)) ?_
      rw [show rowI (a.1 + b.1, a.2.1 ++ b.2.1, q4, c4) :: ys.reverse.map rowI = ((ys ++ [((a.1 + b.1, a.2.1 ++ b.2.1, q4, c4) : XC)]).reverse).map rowI by rw [List.reverse_append]; rfl]
      refine pst_again ((i + 2, ys ++ [(a.1 + b.1, a.2.1 ++ b.2.1, q4, c4)], q6, c6)) ?_ (FSub.of (by (try dsimp only); exact fsa)) (by (try dsimp only); exact hsa) ?_
      · refine ⟨⟨by dsimp only; rw [List.length_append, List.length_singleton]; omega, by dsimp only; omega⟩, ?_⟩
        rw [hI, List.map_append, List.append_assoc]
        rfl
      · dsimp only; omega
  · have hd : pairs ((X.drop i).map stp) = [] := by
      have hl : (X.drop i).length = X.length - i := List.length_drop
      rcases hdr : X.drop i with _ | ⟨a, _ | ⟨b, l⟩⟩
      · rfl
      · rfl
      · rw [hdr] at hl; simp only [List.length_cons] at hl; omega
    rw [hd, List.append_nil] at hI
    clear hd
    (repeat' (first | (apply run_qg 1; (focus rfl); (focus exact wt); (focus rfl); (focus (exact qg1))) | (apply run_qg 4; (focus rfl); (focus exact wt); (focus rfl); (focus (first | exact qg4 | exact qs4))) | (apply run_qg 6; (focus rfl); (focus exact wt); (focus rfl); (focus (first | exact qs6 | exact qg6 | exact q_max rfl rfl rfl | exact q_sliceData rfl rfl (by omega) | exact q_sliceDataN rfl rfl | exact q_unsafeStringN rfl rfl rfl | exact q_cap_slice rfl rfl))) | refine cod_seq ?_ | refine cod_region ?_ | refine run_nil ?_ | refine pst_then ?_ | (apply cod_cond_f; (focus rfl)) | refine cod_exit ?_ | refine cod_ret ?_ | refine pst_block_here ?_ | refine pst_then_exit ?_))
    exact pst_fin rfl (by exact resa) _ (⟨ys, q, c, hI.symm, rfl, rfl⟩) (by exact hsa)
end Go.Proofs.Ytppnaofebkpbkaa.huff
