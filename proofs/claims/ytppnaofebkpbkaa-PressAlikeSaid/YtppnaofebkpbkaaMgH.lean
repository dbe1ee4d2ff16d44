/-
  Several texts in one: HuffP, HuffLaw, HuffL, HuffOk, HuffCost, FlatLaw.
-/
import Derived.Test.YtppnaofebkpbkaaMgS
import Derived.Test.YtppnaofebkpbkaaLens
/-
  huff: pairs: the walk.
-/
namespace Go.Proofs.Ytppnaofebkpbkaa.huff
open Go.RowKit kit sl Go.Proofs.Ytppnaofebkpbkaa.srt Go.Proofs.Ytppnaofebkpbkaa.hsort Go.Proofs.Ytppnaofebkpbkaa.pm
set_option linter.unusedVariables false
theorem lot_mem {x : XC} {tab : List XC} (h : x ∈ tab) : (slV x, (sI x).map fI) ∈ tab.map lotI := List.mem_map_of_mem (f := lotI) h
theorem pairs_cons (a b : XC) (l : List XC) : pairs ((a :: b :: l).map stp) = (a.1 + b.1, a.2.1 ++ b.2.1) :: pairs (l.map stp) := rfl
attribute [local irreducible] box own sl old bptr eptr Qt Opr Run Cod Pst Drn
theorem concat_x (q : Option Addr) (w : Int) (a b : XC) (ha : a.2.1.length ≤ 1000000) (hb : b.2.1.length ≤ 1000000) :
    Ct Try.prog 34 [.slice q 2 2] [own (.slice q 2 2) 22 1 2 [slV a, slV b], sl 1 (slV a) ((sI a).map fI), sl 1 (slV b) ((sI b).map fI)] fun v H' => ∃ q' c', v = .slice q' (a.2.1 ++ b.2.1).length c' ∧ H' = [rowI (w, a.2.1 ++ b.2.1, q', c')] :=
  ct_imp (Go.Proofs.Ytppnaofebkpbkaa.ints.concat_ct q 22 (slV a) (slV b) (sI a) (sI b) (by unfold sI; rw [List.length_map, List.length_map]; omega)) fun v H' ⟨q', c', h1, h2⟩ => by
    have e : sI a ++ sI b = sI (w, a.2.1 ++ b.2.1, q', c') := by unfold sI; rw [List.map_append]
    have el : (sI a ++ sI b).length = (a.2.1 ++ b.2.1).length := by unfold sI; simp
    rw [el] at h1 h2
    rw [e] at h2
    exact ⟨q', c', h1, h2⟩
set_option maxRecDepth 100000 in
set_option maxHeartbeats 8000000 in
theorem pairs_any (qa : Option Addr) (ca : Nat) (X tab : List XC) (hX : X.length ≤ 1000000) (hm : ∀ x ∈ X, x ∈ tab) (hw : ∀ x ∈ X, 0 ≤ x.1 ∧ x.1 ≤ 1000000000000) (hs : ∀ x ∈ X, x.2.1.length ≤ 1000000) :
    Ct Try.prog 24 [.slice qa X.length ca] [sl 2 (.slice qa X.length ca) (X.map fX), many 1 (tab.map lotI)]
      fun v H' => ∃ (ys : List XC) (q : Option Addr) (c : Nat), ys.map stp = pairs (X.map stp) ∧ v = .slice q ys.length c ∧ H' = [own (.slice q ys.length c) 44 2 ys.length (flat fX ys), bundle (ys.reverse.map rowI)] := by
  have hone := one_fX
  (refine spec_enter Try.func24 Try.ntmps24 rfl rfl fun Fr => ?_; dsimp only [List.cons_append, List.nil_append, ini, Nat.reduceAdd])
  (repeat' (first | (apply run_qg 1; (focus rfl); (focus exact wt); (focus rfl); (focus (exact qg1))) | refine cod_seq ?_ | refine cod_region ?_ | refine run_nil ?_ | refine pst_then ?_ | refine cod_block ?_))
  refine cod_heap (heap_nil _ 44 2) ?_
  refine cod_heap (bundle_nil _) ?_
  (refine cod_loop_rw (σ := Nat × List XC × Option Addr × Nat) (fun s => (s.1 = 2 * s.2.1.length ∧ s.1 ≤ X.length + 1) ∧ pairs (X.map stp) = s.2.1.map stp ++ pairs ((X.drop s.1).map stp)) (fun s => [(4, .int .i64 (s.1 : Int)), (3, .slice s.2.2.1 s.2.1.length s.2.2.2)]) (fun s => [own (.slice s.2.2.1 s.2.1.length s.2.2.2) 44 2 s.2.1.length (flat fX s.2.1), bundle (s.2.1.reverse.map rowI)]) _ (fun s => X.length + 1 - s.1) ((0, [], none, 0)) (by exact ⟨⟨rfl, Nat.zero_le _⟩, rfl⟩) (by exact fsa) (by (first | exact HSub.of_picks_rest (by exact pca))) (fun ⟨i, ys, q, c⟩ ⟨⟨hi, hi2⟩, hI⟩ => ?_); dsimp only [List.cons_append, List.nil_append])
  dsimp only at hi hi2 hI
  by_cases hlt : i + 1 < X.length
  · obtain ⟨a, hxa⟩ : ∃ x, X[i]? = some x := ⟨_, List.getElem?_eq_getElem (by omega)⟩
    obtain ⟨b, hxb⟩ : ∃ x, X[i + 1]? = some x := ⟨_, List.getElem?_eq_getElem (by omega)⟩
    have ed : X.drop i = a :: b :: X.drop (i + 2) := by
      obtain ⟨h1, h2⟩ := List.getElem?_eq_some_iff.1 hxa
      obtain ⟨h3, h4⟩ := List.getElem?_eq_some_iff.1 hxb
      rw [List.drop_eq_getElem_cons h1, h2, List.drop_eq_getElem_cons h3, h4]
    have hma := hm a (List.mem_of_getElem? hxa)
    have hmb := hm b (List.mem_of_getElem? hxb)
    have hwa := hw a (List.mem_of_getElem? hxa)
    have hwb := hw b (List.mem_of_getElem? hxb)
    have hla := lot_mem hma
    have hlb := lot_mem hmb
    have CC := fun q => concat_x q (a.1 + b.1) a b (hs a (List.mem_of_getElem? hxa)) (hs b (List.mem_of_getElem? hxb))
    rw [ed, pairs_cons] at hI
    have hi1 : (i : Int) + 1 = ((i + 1 : Nat) : Int) := by omega
    have hi2' : (i : Int) + 2 = ((i + 2 : Nat) : Int) := by omega
    clear ed
    (repeat' (first | (apply run_qg 1; (focus rfl); (focus exact wt); (focus rfl); (focus (exact qg1))) | (apply run_qg 4; (focus rfl); (focus exact wt); (focus rfl); (focus (first | exact qg4 | exact qs4))) | (apply run_qg 6; (focus rfl); (focus exact wt); (focus rfl); (focus (first | exact qs6 | exact qg6 | exact q_max rfl rfl rfl | exact q_sliceData rfl rfl (by omega) | exact q_sliceDataN rfl rfl | exact q_unsafeStringN rfl rfl rfl | exact q_cap_slice rfl rfl))) | refine cod_seq ?_ | refine cod_region ?_ | refine run_nil ?_ | refine pst_then ?_ | (apply cod_cond_t; (focus rfl)) | refine cod_block ?_ | refine cod_skip ?_))
    refine cod_cut_drop 0 (σ := Nat × Nat) (fun _ => True) (fun y => [(5, bptr y.1 0), (6, bptr y.2 0)]) (fun y => [box y.1 (fX a) 44, box y.2 (fX b) 44]) ?_ ?_ <;> dsimp only [List.drop]
    · (refine cod_drawn_ks (Hq := [_]) [2] [] rfl (by kernel_rfl) (by simp only [List.length_cons, List.length_nil, Nat.reduceAdd]; rfl) ?_)
      (repeat' (first | (apply drnK_take 1; (focus rfl); (focus rfl); (focus exact wt); (focus (decide +kernel)); (focus exact hsq); (focus rfl); (focus (exact qg1))) | (apply drnK_take 2; (focus rfl); (focus rfl); (focus exact wt); (focus (decide +kernel)); (focus exact hsq); (focus rfl); (focus (first | exact qg2 | exact qs2))) | (apply drnK_take 3; (focus rfl); (focus rfl); (focus exact wt); (focus (decide +kernel)); (focus exact hsq); (focus rfl); (focus (first | exact qg3 | exact qs3))) | (apply drnK_take 4; (focus rfl); (focus rfl); (focus exact wt); (focus (decide +kernel)); (focus exact hsq); (focus rfl); (focus (first | exact qg4 | exact qs4))) | (apply drnK_done; (focus (decide +kernel))) | (apply drnK_skip; (focus rfl)) | (apply drnK_wrap; (focus rfl))))
      (refine drnK_at 9 ?_; refine drnK_two 10 (by kernel_rfl) ?_ ?_)
      · ((first | refine drnI_s 1 9 (by rfl) wt (by rfl) (by exact opr_new rfl) ?_ | refine drnI_n 1 9 (by rfl) wt (by exact opr_new rfl) ?_); rintro _ _ ⟨b1, rfl, rfl⟩; refine ⟨(by first | exact fun h => absurd h (by decide) | exact fun _ => hsq), ?_⟩; (try dsimp only [List.cons_append, List.nil_append]))
        (repeat' (first | (apply drnK_ones 8; (focus rfl); (focus rfl); (focus (decide +kernel)); (focus exact wt); (focus rfl); (focus (exact opr_new rfl)); (rintro _ _ ⟨b, rfl, rfl⟩; refine ⟨(by first | exact fun h => absurd h (by decide) | exact fun _ => hsq), ?_⟩)) | (apply drnK_onen 9; (focus rfl); (focus rfl); (focus (decide +kernel)); (focus exact wt); (focus (exact opr_store_box_agg rfl rfl rfl (by exact pka) rfl rfl rfl (by exact spla))); (rintro _ _ ⟨rfl, rfl⟩; refine ⟨(by first | exact fun h => absurd h (by decide) | exact fun _ => hsq), ?_⟩)) | (apply drnK_end; (focus (decide +kernel))) | (apply drnK_done; (focus (decide +kernel)))))
        exact pst_cut ((_, _)) (by trivial) (FSub.of fsa) hsa
      · ((first | refine drnI_s 1 10 (by rfl) wt (by rfl) (by exact opr_new rfl) ?_ | refine drnI_n 1 10 (by rfl) wt (by exact opr_new rfl) ?_); rintro _ _ ⟨b2, rfl, rfl⟩; refine ⟨(by first | exact fun h => absurd h (by decide) | exact fun _ => hsq), ?_⟩; (try dsimp only [List.cons_append, List.nil_append]))
        (repeat' (first | (apply drnK_ones 8; (focus rfl); (focus rfl); (focus (decide +kernel)); (focus exact wt); (focus rfl); (focus (exact opr_new rfl)); (rintro _ _ ⟨b, rfl, rfl⟩; refine ⟨(by first | exact fun h => absurd h (by decide) | exact fun _ => hsq), ?_⟩)) | (apply drnK_onen 9; (focus rfl); (focus rfl); (focus (decide +kernel)); (focus exact wt); (focus (exact opr_store_box_agg rfl rfl rfl (by exact pka) rfl rfl rfl (by exact spla))); (rintro _ _ ⟨rfl, rfl⟩; refine ⟨(by first | exact fun h => absurd h (by decide) | exact fun _ => hsq), ?_⟩)) | (apply drnK_end; (focus (decide +kernel))) | (apply drnK_done; (focus (decide +kernel)))))
        exact pst_cut ((_, _)) (by trivial) (FSub.of fsa) hsa
    · rintro ⟨b5, b6⟩ _
      dsimp only [List.cons_append, List.nil_append]
      (repeat' (first | refine pst_then ?_))
      (refine cod_drawn_ks (Hq := [_, _]) [0, 1] [] rfl (by kernel_rfl) (by simp only [List.length_cons, List.length_nil, Nat.reduceAdd]; rfl) ?_)
      (repeat' (first | (apply drnK_take 1; (focus rfl); (focus rfl); (focus exact wt); (focus (decide +kernel)); (focus exact hsq); (focus rfl); (focus (exact qg1))) | (apply drnK_take 2; (focus rfl); (focus rfl); (focus exact wt); (focus (decide +kernel)); (focus exact hsq); (focus rfl); (focus (first | exact qg2 | exact qs2))) | (apply drnK_take 3; (focus rfl); (focus rfl); (focus exact wt); (focus (decide +kernel)); (focus exact hsq); (focus rfl); (focus (first | exact qg3 | exact qs3))) | (apply drnK_take 4; (focus rfl); (focus rfl); (focus exact wt); (focus (decide +kernel)); (focus exact hsq); (focus rfl); (focus (first | exact qg4 | exact qs4))) | (apply drnK_done; (focus (decide +kernel))) | (apply drnK_skip; (focus rfl)) | (apply drnK_wrap; (focus rfl))))
      (refine drnK_at 10 ?_; (first | refine drnK_ones _ (by rfl) (by rfl) (by kernel_rfl) wt (by rfl) (by exact opr_buildSlice rfl rfl rfl (by exact blda) rfl rfl (by decide) rfl) ?_ | refine drnK_onen _ (by rfl) (by rfl) (by kernel_rfl) wt (by exact opr_buildSlice rfl rfl rfl (by exact blda) rfl rfl (by decide) rfl) ?_); rintro _ _ ⟨q3, rfl, rfl⟩; refine ⟨(by first | exact fun h => absurd h (by decide) | exact fun _ => hsq), ?_⟩; (try dsimp only [List.cons_append, List.nil_append]))
      (refine drnK_at 11 ?_; refine drnK_ones _ (by rfl) (by rfl) (by kernel_rfl) wt (by rfl) (opr_call_l rfl (CC _) rfl (Lp.out pka (Lp.view (sl_excl _ _ _) (Lp.view (sl_excl _ _ _) Lp.nil (view_many pka hlb)) (view_many pka hla)))) ?_; rintro _ _ ⟨_, ⟨q4, c4, rfl, rfl⟩, rfl⟩; refine ⟨(by first | exact fun h => absurd h (by decide) | exact fun _ => hsq), ?_⟩; (try dsimp only [List.cons_append, List.nil_append]))
      (repeat' (first | (apply drnK_take 5; (focus rfl); (focus rfl); (focus exact wt); (focus (decide +kernel)); (focus exact hsq); (focus rfl); (focus (exact qg5))) | (apply drnK_skip; (focus rfl))))
      (refine drnK_at 13 ?_; (first | refine drnK_ones _ (by rfl) (by rfl) (by kernel_rfl) wt (by rfl) (by exact opr_buildSlice rfl rfl rfl (by exact blda) rfl rfl (by decide) rfl) ?_ | refine drnK_onen _ (by rfl) (by rfl) (by kernel_rfl) wt (by exact opr_buildSlice rfl rfl rfl (by exact blda) rfl rfl (by decide) rfl) ?_); rintro _ _ ⟨q5, rfl, rfl⟩; refine ⟨(by first | exact fun h => absurd h (by decide) | exact fun _ => hsq), ?_⟩; (try dsimp only [List.cons_append, List.nil_append]))
      (refine drnK_at 14 ?_; (first | refine drnK_ones _ (by rfl) (by rfl) (by kernel_rfl) wt (by rfl) (by exact (by first | exact opr_append_lit0 (fX) [((a.1 + b.1, a.2.1 ++ b.2.1, q4, c4) : XC)] rfl rfl rfl (by exact pka) (by rfl) (by rfl) (by intro _; rfl) (by (first | exact one_fS | exact one_fI | exact one_fB | exact one_fP | exact one_fIIS | exact one_fIIIS | exact one_fII | exact one_fSI | exact one_fIIU | exact one_fY | exact one_fBl | exact one_fT | exact one_fE | assumption)) rfl (by simp only [List.length_cons, List.length_nil]; omega) (by (unfold maxLen); simp only [List.length_cons, List.length_nil]; omega) | exact opr_append_lit (fX) [((a.1 + b.1, a.2.1 ++ b.2.1, q4, c4) : XC)] rfl rfl rfl (by exact pka) (by exact pka) (by rfl) (by rfl) (by first | rfl | omega) (by intro _; rfl) (by (first | exact one_fS | exact one_fI | exact one_fB | exact one_fP | exact one_fIIS | exact one_fIIIS | exact one_fII | exact one_fSI | exact one_fIIU | exact one_fY | exact one_fBl | exact one_fT | exact one_fE | assumption)) rfl (by simp only [List.length_cons, List.length_nil]; omega) (by (unfold maxLen); simp only [List.length_cons, List.length_nil]; omega))) ?_ | refine drnK_onen _ (by rfl) (by rfl) (by kernel_rfl) wt (by exact (by first | exact opr_append_lit0 (fX) [((a.1 + b.1, a.2.1 ++ b.2.1, q4, c4) : XC)] rfl rfl rfl (by exact pka) (by rfl) (by rfl) (by intro _; rfl) (by (first | exact one_fS | exact one_fI | exact one_fB | exact one_fP | exact one_fIIS | exact one_fIIIS | exact one_fII | exact one_fSI | exact one_fIIU | exact one_fY | exact one_fBl | exact one_fT | exact one_fE | assumption)) rfl (by simp only [List.length_cons, List.length_nil]; omega) (by (unfold maxLen); simp only [List.length_cons, List.length_nil]; omega) | exact opr_append_lit (fX) [((a.1 + b.1, a.2.1 ++ b.2.1, q4, c4) : XC)] rfl rfl rfl (by exact pka) (by exact pka) (by rfl) (by rfl) (by first | rfl | omega) (by intro _; rfl) (by (first | exact one_fS | exact one_fI | exact one_fB | exact one_fP | exact one_fIIS | exact one_fIIIS | exact one_fII | exact one_fSI | exact one_fIIU | exact one_fY | exact one_fBl | exact one_fT | exact one_fE | assumption)) rfl (by simp only [List.length_cons, List.length_nil]; omega) (by (unfold maxLen); simp only [List.length_cons, List.length_nil]; omega))) ?_); rintro _ _ ⟨q6, c6, rfl, rfl⟩; refine ⟨(by first | exact fun h => absurd h (by decide) | exact fun _ => hsq), ?_⟩; (try dsimp only [List.cons_append, List.nil_append]))
      (repeat' (first | (apply run_qg 1; (focus rfl); (focus exact wt); (focus rfl); (focus (exact qg1))) | (apply run_qg 4; (focus rfl); (focus exact wt); (focus rfl); (focus (first | exact qg4 | exact qs4))) | refine cod_region ?_ | refine run_nil ?_ | refine pst_then ?_ | refine pst_block ?_ | (apply drnK_take 1; (focus rfl); (focus rfl); (focus exact wt); (focus (decide +kernel)); (focus exact hsq); (focus rfl); (focus (exact qg1))) | (apply drnK_end; (focus (decide +kernel)))))
      rw [hi2']
      refine pst_weak (FSub.refl _) (bundle_in (e := rowI (a.1 + b.1, a.2.1 ++ b.2.1, q4, c4)) pka pka (rowI_x _)) ?_
      rw [show rowI (a.1 + b.1, a.2.1 ++ b.2.1, q4, c4) :: ys.reverse.map rowI = ((ys ++ [((a.1 + b.1, a.2.1 ++ b.2.1, q4, c4) : XC)]).reverse).map rowI by rw [List.reverse_append]; rfl]
      refine pst_again ((i + 2, ys ++ [(a.1 + b.1, a.2.1 ++ b.2.1, q4, c4)], q6, c6)) ?_ (FSub.of (by (try dsimp only); exact fsa)) (by (try dsimp only); exact hsa) ?_
      · refine ⟨⟨by dsimp only; rw [List.length_append, List.length_singleton]; omega, by dsimp only; omega⟩, ?_⟩
        rw [hI, List.map_append, List.append_assoc]
        rfl
      · dsimp only; omega
  · have hd : pairs ((X.drop i).map stp) = [] := by
      have hl : (X.drop i).length = X.length - i := List.length_drop
      rcases hdr : X.drop i with _ | ⟨a, _ | ⟨b, l⟩⟩
      · rfl
      · rfl
      · rw [hdr] at hl; simp only [List.length_cons] at hl; omega
    rw [hd, List.append_nil] at hI
    clear hd
    (repeat' (first | (apply run_qg 1; (focus rfl); (focus exact wt); (focus rfl); (focus (exact qg1))) | (apply run_qg 4; (focus rfl); (focus exact wt); (focus rfl); (focus (first | exact qg4 | exact qs4))) | (apply run_qg 6; (focus rfl); (focus exact wt); (focus rfl); (focus (first | exact qs6 | exact qg6 | exact q_max rfl rfl rfl | exact q_sliceData rfl rfl (by omega) | exact q_sliceDataN rfl rfl | exact q_unsafeStringN rfl rfl rfl | exact q_cap_slice rfl rfl))) | refine cod_seq ?_ | refine cod_region ?_ | refine run_nil ?_ | refine pst_then ?_ | (apply cod_cond_f; (focus rfl)) | refine cod_exit ?_ | refine cod_ret ?_ | refine pst_block_here ?_ | refine pst_then_exit ?_))
    exact pst_fin rfl (by exact resa) _ (⟨ys, q, c, hI.symm, rfl, rfl⟩) (by exact hsa)
end Go.Proofs.Ytppnaofebkpbkaa.huff
/-
  huff: what Lens tells (no program).
-/
namespace Go.Proofs.Ytppnaofebkpbkaa.huff
open Go.RowKit kit sl Go.Proofs.Ytppnaofebkpbkaa.srt Go.Proofs.Ytppnaofebkpbkaa.hsort Go.Proofs.Ytppnaofebkpbkaa.pm
set_option linter.unusedVariables false
instance keyCoin : Key Coin := ⟨fun c => c.1⟩
theorem ins_stp (x : XC) : ∀ l : List XC, (ins x l).map stp = ins (stp x) (l.map stp)
  | [] => rfl
  | y :: l => by
    rw [ins, List.map_cons, ins]
    by_cases h : kf x ≤ kf y
    · rw [if_pos h, if_pos (show kf (stp x) ≤ kf (stp y) from h)]
      rfl
    · rw [if_neg h, if_neg (show ¬ kf (stp x) ≤ kf (stp y) from h), List.map_cons, ins_stp x l]
theorem sort_stp : ∀ l : List XC, (sortW l).map stp = sortW (l.map stp)
  | [] => rfl
  | x :: l => by rw [sortW, ins_stp, sort_stp l]; rfl
theorem ins_perm {α : Type} [Key α] (x : α) : ∀ l : List α, (ins x l).Perm (x :: l)
  | [] => List.Perm.refl _
  | y :: l => by
    rw [ins]
    split
    · exact List.Perm.refl _
    · exact ((ins_perm x l).cons y).trans (List.Perm.swap x y l)
theorem sortW_perm {α : Type} [Key α] : ∀ l : List α, (sortW l).Perm l
  | [] => List.Perm.refl _
  | x :: l => (ins_perm x _).trans ((sortW_perm l).cons x)
def wF (F : List Int) (i : Nat) : Int := F.getD i 0
/-- the signs that come -/
def posF (F : List Int) (n : Nat) : List Nat := (List.range n).filter fun i => decide (0 < wF F i)
theorem pos_next_t {F : List Int} {n : Nat} (h : 0 < wF F n) : posF F (n + 1) = posF F n ++ [n] := by
  unfold posF
  rw [List.range_succ, List.filter_append]
  simp [h]
theorem pos_next_f {F : List Int} {n : Nat} (h : ¬ 0 < wF F n) : posF F (n + 1) = posF F n := by
  unfold posF
  rw [List.range_succ, List.filter_append]
  simp [h]
def idxF (F : List Int) : List Nat := (sortW (single (wF F) (posF F F.length))).map fun c => c.2.headD 0
theorem single_idx (F : List Int) : sortW (single (wF F) (posF F F.length)) = single (wF F) (idxF F) := by
  unfold idxF
  have h : ∀ c ∈ sortW (single (wF F) (posF F F.length)), c = (wF F (c.2.headD 0), [c.2.headD 0]) := fun c hc => by
    obtain ⟨i, _, rfl⟩ := List.mem_map.1 ((sortW_perm _).mem_iff.1 hc)
    rfl
  generalize sortW (single (wF F) (posF F F.length)) = l at h
  unfold single
  rw [List.map_map]
  induction l with
  | nil => rfl
  | cons c l ih =>
    rw [List.map_cons, ← ih fun d hd => h d (List.mem_cons_of_mem _ hd)]
    congr 1
    exact h c List.mem_cons_self
theorem idx_perm (F : List Int) : (idxF F).Perm (posF F F.length) := by
  have h := (sortW_perm (single (wF F) (posF F F.length))).map fun c => c.2.headD 0
  have e : (single (wF F) (posF F F.length)).map (fun c => c.2.headD 0) = posF F F.length := by
    unfold single
    rw [List.map_map]
    exact List.map_id' _
  rw [e] at h
  exact h
theorem pos_nodup (F : List Int) (n : Nat) : (posF F n).Nodup := List.nodup_range.filter _
theorem pos_mem {F : List Int} {n i : Nat} : i ∈ posF F n ↔ i < n ∧ 0 < wF F i := by
  unfold posF
  rw [List.mem_filter, List.mem_range, decide_eq_true_eq]
theorem pos_len (F : List Int) (n : Nat) : (posF F n).length ≤ n := by
  have := List.length_filter_le (fun i => decide (0 < wF F i)) (List.range n)
  rwa [List.length_range] at this
/-- how often each sign is among some -/
def cntL (N : Nat) (S : List Nat) : List Int := (List.range N).map fun i => ((List.count i S : Nat) : Int)
theorem cnt_len (N : Nat) (S : List Nat) : (cntL N S).length = N := by simp [cntL]
theorem cnt_at {N i : Nat} (S : List Nat) (h : i < N) : (cntL N S)[i]? = some ((List.count i S : Nat) : Int) := by
  unfold cntL
  rw [List.getElem?_map, List.getElem?_range h]
  rfl
theorem cnt_nil (N : Nat) : cntL N [] = List.replicate N 0 := by
  unfold cntL
  apply List.ext_getElem?
  intro k
  rw [List.getElem?_map, List.getElem?_replicate]
  rcases Nat.lt_or_ge k N with h | h
  · rw [List.getElem?_range h, if_pos h]; rfl
  · rw [List.getElem?_eq_none (by simpa using h), if_neg (by omega)]; rfl
theorem cnt_set {N i : Nat} (S : List Nat) (h : i < N) : (cntL N S).set i (((List.count i S : Nat) : Int) + 1) = cntL N (S ++ [i]) := by
  apply List.ext_getElem?
  intro k
  rw [List.getElem?_set]
  rcases Nat.lt_or_ge k N with hk | hk
  · by_cases e : i = k
    · subst e
      rw [if_pos rfl, if_pos (by rw [cnt_len]; exact h), cnt_at _ h]
      simp [List.count_append]
    · rw [if_neg e, cnt_at _ hk, cnt_at _ hk]
      simp [List.count_append, e]
  · rw [List.getElem?_eq_none (by rw [cnt_len]; exact hk), if_neg (by omega), List.getElem?_eq_none (by rw [cnt_len]; exact hk)]
/-- what goes wrong, and the lengths -/
def lensE (F : List Int) (most : Int) : Int := if chkE F ≠ 0 then chkE F else if most < 1 ∨ 15 < most then 1 else if 2 ^ most.toNat < (posF F F.length).length then 6 else 0
def lensL (F : List Int) (most : Int) : List Int := if (idxF F).length < 2 then cntL F.length (posF F F.length) else cntL F.length (signs ((lists (single (wF F) (idxF F)) (most.toNat - 1)).take (2 * (idxF F).length - 2)))
theorem lens_len (F : List Int) (most : Int) : (lensL F most).length = F.length := by unfold lensL; split <;> exact cnt_len _ _
theorem lensE_zero {F : List Int} {most : Int} (h : lensE F most = 0) : GoodF F ∧ 1 ≤ most ∧ most ≤ 15 ∧ (posF F F.length).length ≤ 2 ^ most.toNat := by
  unfold lensE at h
  split at h
  · rename_i h1; exact absurd h h1
  · rename_i h1
    split at h
    · cases h
    · split at h
      · cases h
      · exact ⟨chk_zero.1 (by simpa using h1), by omega, by omega, by omega⟩
/-- what all coins of a list are like -/
def Fine (N k : Nat) (c : Coin) : Prop := (c.2.length ≤ 2 ^ k ∧ ∀ i ∈ c.2, i < N) ∧ 0 ≤ c.1 ∧ c.1 ≤ 1048576 * ((2 ^ k : Nat) : Int)
theorem fine_up {N k : Nat} {c : Coin} (h : Fine N k c) : Fine N (k + 1) c := by
  obtain ⟨⟨h1, h2⟩, h3, h4⟩ := h
  have e : (2 : Nat) ^ (k + 1) = 2 ^ k * 2 := Nat.pow_succ 2 k
  have := Nat.two_pow_pos k
  exact ⟨⟨by omega, h2⟩, h3, by rw [e]; omega⟩
theorem fine_pairs {N k : Nat} : ∀ l : List Coin, (∀ c ∈ l, Fine N k c) → ∀ c ∈ pairs l, Fine N (k + 1) c := by
  refine pairs_ind (fun _ c hc => by cases hc) (fun _ _ c hc => by cases hc) fun a b l ih h c hc => ?_
  rw [pairs] at hc
  rcases List.mem_cons.1 hc with rfl | hc
  · obtain ⟨⟨a1, a2⟩, a3, a4⟩ := h a List.mem_cons_self
    obtain ⟨⟨b1, b2⟩, b3, b4⟩ := h b (List.mem_cons_of_mem _ List.mem_cons_self)
    have e : (2 : Nat) ^ (k + 1) = 2 ^ k * 2 := Nat.pow_succ 2 k
    refine ⟨⟨?_, fun i hi => ?_⟩, ?_, ?_⟩
    · dsimp only; rw [List.length_append]; omega
    · rcases List.mem_append.1 hi with hi | hi
      · exact a2 i hi
      · exact b2 i hi
    · dsimp only; omega
    · dsimp only; rw [e]; omega
  · exact ih (fun c hc => h c (List.mem_cons_of_mem _ (List.mem_cons_of_mem _ hc))) c hc
theorem fine_lists {N : Nat} {s : List Coin} (h : ∀ c ∈ s, Fine N 0 c) : ∀ k, ∀ c ∈ lists s k, Fine N k c
  | 0 => h
  | k + 1 => fun c hc => by
    have hs : ∀ k, ∀ c ∈ s, Fine N k c := fun k => by
      induction k with
      | zero => exact h
      | succ k ih => exact fun c hc => fine_up (ih c hc)
    rcases List.mem_append.1 ((merged_perm _ _).mem_iff.1 hc) with hc | hc
    · exact hs (k + 1) c hc
    · exact fine_pairs _ (fine_lists h k) c hc
theorem lists_short (s : List Coin) : ∀ k, (lists s k).length ≤ 2 * s.length
  | 0 => by rw [lists]; omega
  | k + 1 => by
    have := lists_short s k
    rw [lists_len]
    omega
theorem fine_single {F : List Int} (h : GoodF F) : ∀ c ∈ single (wF F) (idxF F), Fine F.length 0 c := fun c hc => by
  obtain ⟨i, hi, rfl⟩ := List.mem_map.1 hc
  obtain ⟨h1, h2⟩ := pos_mem.1 ((idx_perm F).mem_iff.1 hi)
  obtain ⟨f, hf⟩ : ∃ f, F[i]? = some f := ⟨_, List.getElem?_eq_getElem h1⟩
  have e : wF F i = f := by unfold wF; rw [List.getD_eq_getElem?_getD, hf]; rfl
  have hg := h.2 f (List.mem_of_getElem? hf)
  refine ⟨⟨Nat.le_refl _, fun j hj => by rw [List.mem_singleton.1 hj]; exact h1⟩, ?_, ?_⟩
  · dsimp only; omega
  · dsimp only; rw [e, Nat.pow_zero]; omega
end Go.Proofs.Ytppnaofebkpbkaa.huff
/-
  huff.Lens: the walk.
-/
namespace Go.Proofs.Ytppnaofebkpbkaa.huff
open Go.RowKit kit sl Go.Proofs.Ytppnaofebkpbkaa.srt Go.Proofs.Ytppnaofebkpbkaa.hsort Go.Proofs.Ytppnaofebkpbkaa.pm
set_option linter.unusedVariables false
section
variable {P : Program} {n : Nat} {F : Frm} {H : List Ent} {o : Oper} {x y : Operand} {T : TypeId}
theorem q_shl_by {k' : IntKind} {i j r : Int} {m : Nat} {T' : TypeId} (ho : o.op = .binOp .shl T x y T') (hx : ev F x = some (.int .i64 i)) (hy : ev F y = some (.int k' j)) (hj : j = (m : Int)) (hm : m ≤ 62) (hr : IntKind.i64.wrap (i * 2 ^ m) = r) : Qt P n o F H (.int .i64 r) :=
  q_shl (hp := ⟨by rw [hj]; rfl, by omega, by omega⟩) ho hx hy (Nat.ble_eq_true_of_le (by simp [IntKind.bits]; omega)) hr
end
def boxK (b : Nat) : Ent := box b [.func (.func 22) #[] #[]] 48
instance {b : Nat} {L : List Ent} [hl : XL L] : XL (boxK b :: L) := ⟨fun g hg => by
  rcases List.mem_cons.1 hg with rfl | hg
  · rfl
  · exact hl.h g hg⟩
theorem view_box {S R : List Ent} {b : Nat} (p : Pick (boxK b) S R) : View S (KB b) := ⟨rfl, fun w hw => by
  have h := hw.1 _ p.mem
  exact h, fun k hk => ⟨_, p.mem, hk⟩⟩
theorem rowI_is (x : XC) : rowI x = own (slV x) 3 1 (sI x).length (flat fI (sI x)) := by
  unfold rowI sI
  rw [List.length_map]
theorem bundle_many {H R : List Ent} {tab : List XC} (p : Pick (bundle (tab.map rowI)) H R) : HSub H (many 1 (tab.map lotI) :: R) :=
  heap_less p (view_bundle (vv := slV) (xs := sI) (f := fI) (rw := rowI) (tab := tab) Pick.here rowI_is (fun _ => rfl) tab (fun r h => h))
theorem rowI_one (f : Int) (i : Nat) (q : Option Addr) : own (.slice q 1 1) 3 1 1 [.int .i64 (i : Int)] = rowI (f, [i], q, 1) := rfl
def LensR (F : List Int) (most : Int) (v : Value) (H' : List Ent) : Prop :=
  (lensE F most = 0 ∧ ∃ q c, v = .tuple #[.slice q F.length c, .int .i64 0] ∧ H' = [own (.slice q F.length c) 3 1 F.length (flat fI (lensL F most))]) ∨
  (lensE F most ≠ 0 ∧ v = .tuple #[.slice none 0 0, .int .i64 (lensE F most)] ∧ H' = [])
instance {F : List Int} {most : Int} : Xcl (LensR F most) := by unfold LensR; infer_instance
/-- what the first loop makes -/
def Sing (F : List Int) (i : Nat) (S : List XC) : Prop := S.map stp = single (wF F) (posF F i)
theorem sing_next_t {F : List Int} {i : Nat} {S : List XC} {f : Int} {q : Option Addr} (h : Sing F i S) (hf : F[i]? = some f) (h0 : 0 < f) : Sing F (i + 1) (S ++ [(f, [i], q, 1)]) := by
  have e : wF F i = f := by unfold wF; rw [List.getD_eq_getElem?_getD, hf]; rfl
  unfold Sing at h ⊢
  rw [pos_next_t (by omega), List.map_append, h]
  unfold single
  rw [List.map_append, ← e]
  rfl
theorem sing_next_f {F : List Int} {i : Nat} {S : List XC} {f : Int} (h : Sing F i S) (hf : F[i]? = some f) (h0 : ¬ 0 < f) : Sing F (i + 1) S := by
  have e : wF F i = f := by unfold wF; rw [List.getD_eq_getElem?_getD, hf]; rfl
  unfold Sing at h ⊢
  rw [pos_next_f (by omega), h]
theorem sing_len {F : List Int} {i : Nat} {S : List XC} (h : Sing F i S) : S.length = (posF F i).length := by
  have := congrArg List.length h
  rw [List.length_map, single_len] at this
  exact this
theorem sign_len {B : Nat} : ∀ {l : List Coin}, (∀ c ∈ l, c.2.length ≤ B) → (signs l).length ≤ B * l.length
  | [], _ => Nat.zero_le _
  | c :: l, h => by
    have h1 := h c List.mem_cons_self
    have h2 := sign_len (l := l) fun d hd => h d (List.mem_cons_of_mem _ hd)
    unfold signs at h2 ⊢
    rw [List.flatMap_cons, List.length_append, List.length_cons, Nat.mul_succ]
    omega
attribute [local irreducible] box own sl old bptr eptr Qt Opr Run Cod Pst Drn
set_option maxRecDepth 100000 in
set_option maxHeartbeats 8000000 in
theorem by_any : Ct Try.prog 21 [.func (.func 22) #[] #[]] [] fun v H' => ∃ b, v = cmpV b ∧ H' = [boxK b] := by
  unfold boxK cmpV
  (refine spec_enter Try.func21 Try.ntmps21 rfl rfl fun Fr => ?_; dsimp only [List.cons_append, List.nil_append, ini, Nat.reduceAdd])
  (repeat' (first | (apply run_qg 1; (focus rfl); (focus exact wt); (focus rfl); (focus (exact qg1))) | (apply run_qg 5; (focus rfl); (focus exact wt); (focus rfl); (focus (exact qg5))) | refine cod_seq ?_ | refine cod_region ?_ | refine run_nil ?_ | refine pst_then ?_ | refine cod_ret ?_ | (apply run_osg 8; (focus rfl); (focus exact wt); (focus rfl); (focus (exact opr_box_one rfl rfl rfl)); (rintro _ _ ⟨b, rfl, rfl⟩))))
  exact pst_fin rfl (by exact resa) _ (⟨_, rfl, rfl⟩) (by exact hsa)
set_option maxRecDepth 100000 in
set_option maxHeartbeats 8000000 in
theorem lens_bad (q : Option Addr) (c : Nat) (F : List Int) (most : Int) (hl : F.length ≤ 1000000000000000) (h : ¬ (chkE F = 0 ∧ 1 ≤ most ∧ most ≤ 15)) :
    Ct Try.prog 9 [.slice q F.length c, .int .i64 most] [sl 1 (.slice q F.length c) (F.map fI)] (LensR F most) := by
  have CK := check_any q c F hl
  by_cases hk : chkE F = 0
  · have e : lensE F most = 1 := by unfold lensE; rw [if_neg (by rw [hk]; simp), if_pos (by omega)]
    have R0 : LensR F most (.tuple #[.slice none 0 0, .int .i64 1]) [] := .inr ⟨by rw [e]; decide, by rw [e], rfl⟩
    rw [hk] at CK
    (refine spec_enter Try.func9 Try.ntmps9 rfl rfl fun Fr => ?_; dsimp only [List.cons_append, List.nil_append, ini, Nat.reduceAdd])
    (repeat' (first | (apply run_qg 1; (focus rfl); (focus exact wt); (focus rfl); (focus (exact qg1))) | (apply run_qg 4; (focus rfl); (focus exact wt); (focus rfl); (focus (first | exact qg4 | exact qs4))) | refine cod_seq ?_ | refine cod_region ?_ | refine run_nil ?_ | refine pst_then ?_ | (apply cod_cond_t; (focus rfl)) | (apply cod_cond_f; (focus rfl)) | refine cod_ret ?_ | refine cod_skip ?_ | refine pst_then_ret ?_ | (apply run_offs; (focus rfl); (focus rfl); (focus rfl)) | (apply run_osg 7; (focus rfl); (focus exact wt); (focus rfl); (focus (exact opr_call_ls (by rfl) (CK ..) (by rfl) lpa)); (rintro _ _ ⟨rfl, rfl⟩)) | ((first | (apply run_lss; (rotate_left 2); (focus rfl)) | (apply run_leq; (rotate_left 2); (focus rfl)) | (apply run_gtr; (rotate_left 2); (focus rfl)) | (apply run_geq; (rotate_left 2); (focus rfl)) | (apply run_eql; (rotate_left 2); (focus rfl)) | (apply run_neq; (rotate_left 2); (focus rfl)) | (apply run_seq; (rotate_left 2); (focus rfl)) | (apply run_sneq; (rotate_left 2); (focus rfl))); (focus rfl); (focus rfl); (rotate_right 2); (focus exact wt); (focus rfl); (all_goals (intro h; dsimp only [upd])))))
    all_goals first | (exfalso; omega) | exact pst_fin rfl (by exact resa) _ (R0) (by exact hsa)
  · have e : lensE F most = chkE F := by unfold lensE; rw [if_pos hk]
    have R0 : LensR F most (.tuple #[.slice none 0 0, .int .i64 (chkE F)]) [] := .inr ⟨by rw [e]; exact hk, by rw [e], rfl⟩
    generalize chkE F = ce at *
    (refine spec_enter Try.func9 Try.ntmps9 rfl rfl fun Fr => ?_; dsimp only [List.cons_append, List.nil_append, ini, Nat.reduceAdd])
    (repeat' (first | (apply run_qg 1; (focus rfl); (focus exact wt); (focus rfl); (focus (exact qg1))) | (apply run_qg 4; (focus rfl); (focus exact wt); (focus rfl); (focus (first | exact qg4 | exact qs4))) | refine cod_seq ?_ | refine cod_region ?_ | refine run_nil ?_ | refine pst_then ?_ | (apply cod_cond_t; (focus rfl)) | refine cod_ret ?_ | refine pst_then_ret ?_ | (apply run_osg 7; (focus rfl); (focus exact wt); (focus rfl); (focus (exact opr_call_ls (by rfl) (CK ..) (by rfl) lpa)); (rintro _ _ ⟨rfl, rfl⟩))))
    exact pst_fin rfl (by exact resa) _ (R0) (by exact hsa)
set_option maxRecDepth 100000 in
set_option maxHeartbeats 8000000 in
theorem lens_good (q : Option Addr) (c : Nat) (F : List Int) (m : Nat) (h : GoodF F) (hm : m ≤ 14) :
    Ct Try.prog 9 [.slice q F.length c, .int .i64 ((m + 1 : Nat) : Int)] [sl 1 (.slice q F.length c) (F.map fI)] (LensR F ((m + 1 : Nat) : Int)) := by
  have hl := h.1
  have CK := check_any q c F (by omega)
  rw [chk_zero.2 h] at CK
  have hone := one_fX
  have hpow : 2 ^ (m + 1) ≤ 32768 := Nat.le_trans (Nat.pow_le_pow_right (by decide) (by omega : m + 1 ≤ 15)) (by decide)
  have hp0 := Nat.two_pow_pos (m + 1)
  have hwr : IntKind.i64.wrap (1 * 2 ^ (m + 1)) = ((2 ^ (m + 1) : Nat) : Int) := by
    rw [Int.one_mul, show ((2 : Int) ^ (m + 1)) = ((2 ^ (m + 1) : Nat) : Int) by simp]
    exact wr_i64 (by omega)
  have hmm : ((m + 1 : Nat) : Int).toNat = m + 1 := by omega
  obtain ⟨w, hw⟩ : ∃ w, 2 ^ (m + 1) = w := ⟨_, rfl⟩
  rw [hw] at hpow hp0 hwr
  have hpl := pos_len F F.length
  have R6 : w < (posF F F.length).length → LensR F ((m + 1 : Nat) : Int) (.tuple #[.slice none 0 0, .int .i64 6]) [] := fun g => by
    have e : lensE F ((m + 1 : Nat) : Int) = 6 := by
      unfold lensE
      rw [if_neg (by rw [chk_zero.2 h]; simp), if_neg (by omega), hmm, if_pos (by rw [hw]; exact g)]
    exact .inr ⟨by rw [e]; decide, by rw [e], rfl⟩
  have R0 : ¬ w < (posF F F.length).length → ∀ q c, LensR F ((m + 1 : Nat) : Int) (.tuple #[.slice q F.length c, .int .i64 0]) [own (.slice q F.length c) 3 1 F.length (flat fI (lensL F ((m + 1 : Nat) : Int)))] := fun g q c => by
    have e : lensE F ((m + 1 : Nat) : Int) = 0 := by
      unfold lensE
      rw [if_neg (by rw [chk_zero.2 h]; simp), if_neg (by omega), hmm, if_neg (by rw [hw]; exact g)]
    exact .inl ⟨e, q, c, rfl, rfl⟩
  (refine spec_enter Try.func9 Try.ntmps9 rfl rfl fun Fr => ?_; dsimp only [List.cons_append, List.nil_append, ini, Nat.reduceAdd])
  (repeat' (first | (apply run_qg 1; (focus rfl); (focus exact wt); (focus rfl); (focus (exact qg1))) | (apply run_qg 4; (focus rfl); (focus exact wt); (focus rfl); (focus (first | exact qg4 | exact qs4))) | (apply run_qg 6; (focus rfl); (focus exact wt); (focus rfl); (focus (first | exact qs6 | exact qg6 | exact q_max rfl rfl rfl | exact q_sliceData rfl rfl (by omega) | exact q_sliceDataN rfl rfl | exact q_unsafeStringN rfl rfl rfl | exact q_cap_slice rfl rfl))) | refine cod_seq ?_ | refine cod_region ?_ | refine run_nil ?_ | refine pst_then ?_ | (apply cod_cond_f; (focus rfl)) | refine cod_block ?_ | refine cod_skip ?_ | (apply run_osg 7; (focus rfl); (focus exact wt); (focus rfl); (focus (exact opr_call_ls (by rfl) (CK ..) (by rfl) lpa)); (rintro _ _ ⟨rfl, rfl⟩))))
  refine cod_heap (heap_nil _ 44 2) ?_
  refine cod_heap (bundle_nil _) ?_
  (refine cod_loop_rw (σ := Nat × List XC × Option Addr × Nat) (fun s => s.1 ≤ F.length ∧ Sing F s.1 s.2.1) (fun s => [(29, .int .i64 (s.1 : Int)), (7, .slice s.2.2.1 s.2.1.length s.2.2.2)]) (fun s => [own (.slice s.2.2.1 s.2.1.length s.2.2.2) 44 2 s.2.1.length (flat fX s.2.1), bundle (s.2.1.reverse.map rowI)]) _ (fun s => F.length - s.1) ((0, [], none, 0)) (by exact ⟨Nat.zero_le _, rfl⟩) (by exact fsa) (by (first | exact HSub.of_picks_rest (by exact pca))) (fun ⟨i, S, q1, c1⟩ ⟨hi, hS⟩ => ?_); dsimp only [List.cons_append, List.nil_append])
  dsimp only at hi hS
  have hSl := sing_len hS
  have hpi := pos_len F i
  rcases get_or F i with ⟨f, hf, hlt⟩ | hge
  · have hgf := h.2 f (List.mem_of_getElem? hf)
    by_cases h0 : 0 < f
    · have hN := fun q => sing_next_t (q := q) hS hf h0
      clear R6 R0
      (repeat' (first | (apply run_qg 1; (focus rfl); (focus exact wt); (focus rfl); (focus (exact qg1))) | (apply run_qg 2; (focus rfl); (focus exact wt); (focus rfl); (focus (first | exact qg2 | exact qs2))) | (apply run_qg 3; (focus rfl); (focus exact wt); (focus rfl); (focus (first | exact qg3 | exact qs3))) | (apply run_qg 4; (focus rfl); (focus exact wt); (focus rfl); (focus (first | exact qg4 | exact qs4))) | (apply run_qg 5; (focus rfl); (focus exact wt); (focus rfl); (focus (exact qg5))) | refine cod_seq ?_ | refine cod_region ?_ | refine run_nil ?_ | refine pst_then ?_ | (apply cod_cond_t; (focus rfl)) | refine cod_block ?_ | refine cod_skip ?_ | (apply run_osg 10; (focus rfl); (focus exact wt); (focus rfl); (focus (exact opr_buildSlice rfl rfl rfl (by exact blda) rfl rfl (by decide) rfl)); (rintro _ _ ⟨q, rfl, rfl⟩))))
      refine run_os wt rfl (by first | exact opr_append_lit0 (fX) [((f, [i], _, 1) : XC)] rfl rfl rfl (by exact pka) (by rfl) (by rfl) (by intro _; rfl) (by (first | exact one_fS | exact one_fI | exact one_fB | exact one_fP | exact one_fIIS | exact one_fIIIS | exact one_fII | exact one_fSI | exact one_fIIU | exact one_fY | exact one_fBl | exact one_fT | exact one_fE | assumption)) rfl (by simp only [List.length_cons, List.length_nil]; omega) (by (unfold maxLen); simp only [List.length_cons, List.length_nil]; omega) | exact opr_append_lit (fX) [((f, [i], _, 1) : XC)] rfl rfl rfl (by exact pka) (by exact pka) (by rfl) (by rfl) (by first | rfl | omega) (by intro _; rfl) (by (first | exact one_fS | exact one_fI | exact one_fB | exact one_fP | exact one_fIIS | exact one_fIIIS | exact one_fII | exact one_fSI | exact one_fIIU | exact one_fY | exact one_fBl | exact one_fT | exact one_fE | assumption)) rfl (by simp only [List.length_cons, List.length_nil]; omega) (by (unfold maxLen); simp only [List.length_cons, List.length_nil]; omega)) ?_
      rintro _ _ ⟨q5, c5, rfl, rfl⟩
      rename_i qi
      refine run_heap (bundle_in (e := rowI (f, [i], qi, 1)) pka pka (rowI_x _)) ?_
      rw [show rowI (f, [i], qi, 1) :: S.reverse.map rowI = ((S ++ [((f, [i], qi, 1) : XC)]).reverse).map rowI by rw [List.reverse_append]; rfl]
      (repeat' (first | (apply run_qg 1; (focus rfl); (focus exact wt); (focus rfl); (focus (exact qg1))) | (apply run_qg 4; (focus rfl); (focus exact wt); (focus rfl); (focus (first | exact qg4 | exact qs4))) | refine cod_region ?_ | refine run_nil ?_ | refine pst_then ?_ | refine pst_block ?_))
      refine pst_again ((i + 1, S ++ [(f, [i], qi, 1)], q5, c5)) ?_ (FSub.of (by (try dsimp only); exact fsa)) (by (try dsimp only); exact hsa) ?_
      · exact ⟨hlt, hN qi⟩
      · dsimp only; omega
    · have hN := sing_next_f hS hf h0
      clear R6 R0
      (repeat' (first | (apply run_qg 1; (focus rfl); (focus exact wt); (focus rfl); (focus (exact qg1))) | (apply run_qg 2; (focus rfl); (focus exact wt); (focus rfl); (focus (first | exact qg2 | exact qs2))) | (apply run_qg 3; (focus rfl); (focus exact wt); (focus rfl); (focus (first | exact qg3 | exact qs3))) | (apply run_qg 4; (focus rfl); (focus exact wt); (focus rfl); (focus (first | exact qg4 | exact qs4))) | refine cod_seq ?_ | refine cod_region ?_ | refine run_nil ?_ | refine pst_then ?_ | (apply cod_cond_t; (focus rfl)) | (apply cod_cond_f; (focus rfl)) | refine cod_block ?_ | refine cod_skip ?_ | refine pst_block ?_))
      refine pst_again ((i + 1, S, q1, c1)) ?_ (FSub.of (by (try dsimp only); exact fsa)) (by (try dsimp only); exact hsa) ?_
      · exact ⟨hlt, hN⟩
      · dsimp only; omega
  · have hil : i = F.length := by omega
    subst hil
    (repeat' (first | (apply run_qg 1; (focus rfl); (focus exact wt); (focus rfl); (focus (exact qg1))) | (apply run_qg 4; (focus rfl); (focus exact wt); (focus rfl); (focus (first | exact qg4 | exact qs4))) | (apply run_qg 6; (focus rfl); (focus exact wt); (focus rfl); (focus (first | exact qs6 | exact qg6 | exact q_max rfl rfl rfl | exact q_sliceData rfl rfl (by omega) | exact q_sliceDataN rfl rfl | exact q_unsafeStringN rfl rfl rfl | exact q_cap_slice rfl rfl))) | refine cod_seq ?_ | refine cod_region ?_ | refine run_nil ?_ | refine pst_then ?_ | (apply cod_cond_f; (focus rfl)) | refine cod_exit ?_ | refine pst_block_here ?_ | refine pst_then_exit ?_))
    refine run_qs wt rfl (q_shl_by rfl rfl rfl rfl (by omega) hwr) ?_
    by_cases hover : w < (posF F F.length).length
    · have R1 := R6 hover
      clear R6 R0
      (repeat' (first | (apply run_qg 1; (focus rfl); (focus exact wt); (focus rfl); (focus (exact qg1))) | (apply run_qg 4; (focus rfl); (focus exact wt); (focus rfl); (focus (first | exact qg4 | exact qs4))) | refine cod_seq ?_ | refine cod_region ?_ | refine run_nil ?_ | refine pst_then ?_ | (apply cod_cond_t; (focus rfl)) | refine cod_ret ?_ | refine pst_then_ret ?_))
      exact pst_fin rfl (by exact resa) _ (R1) (by exact hsa)
    · have R1 := R0 hover
      clear R6 R0
      have hover2 : (posF F F.length).length ≤ w := by omega
      (repeat' (first | (apply run_qg 1; (focus rfl); (focus exact wt); (focus rfl); (focus (exact qg1))) | (apply run_qg 4; (focus rfl); (focus exact wt); (focus rfl); (focus (first | exact qg4 | exact qs4))) | (apply run_qg 6; (focus rfl); (focus exact wt); (focus rfl); (focus (first | exact qs6 | exact qg6 | exact q_max rfl rfl rfl | exact q_sliceData rfl rfl (by omega) | exact q_sliceDataN rfl rfl | exact q_unsafeStringN rfl rfl rfl | exact q_cap_slice rfl rfl))) | refine cod_seq ?_ | refine cod_region ?_ | refine run_nil ?_ | refine pst_then ?_ | (apply cod_cond_f; (focus rfl)) | refine cod_skip ?_))
      refine run_os wt rfl (opr_make (fI) (0) (c := F.length) rfl rfl rfl (by first | rfl | omega) (by first | rfl | omega) rfl rfl (by omega) (by (unfold maxLen); omega)) ?_
      rintro _ _ ⟨qo, rfl, rfl⟩
      refine run_heap (bundle_many pka) ?_
      rcases Nat.lt_or_ge S.length 2 with h2 | h2
      · have hidl : (idxF F).length = S.length := by rw [(idx_perm F).length_eq, hSl]
        have eL : lensL F ((m + 1 : Nat) : Int) = cntL F.length (posF F F.length) := by unfold lensL; rw [if_pos (by omega)]
        rw [eL] at R1
        by_cases h1 : S.length = 1
        · obtain ⟨x, hSx⟩ : ∃ x, S = [x] := List.length_eq_one_iff.1 h1
          obtain ⟨j, hpj⟩ : ∃ j, posF F F.length = [j] := List.length_eq_one_iff.1 (by rw [← hSl, h1])
          have hxs : stp x = (wF F j, [j]) := by
            unfold Sing at hS
            rw [hSx, hpj] at hS
            unfold single at hS
            simp only [List.map_cons, List.map_nil, List.cons.injEq, and_true] at hS
            exact hS
          have hjN : j < F.length := (pos_mem.1 (by rw [hpj]; exact List.mem_singleton.2 rfl : j ∈ posF F F.length)).1
          obtain ⟨f, sg, qx, cx⟩ := x
          have hsg : sg = [j] := congrArg (fun y : Coin => y.2) hxs
          subst hsg
          rw [hpj, ← List.nil_append [j], ← cnt_set [] hjN, cnt_nil] at R1
          have hz : (List.replicate F.length (0 : Int))[j]? = some 0 := by rw [List.getElem?_replicate, if_pos hjN]
          have hset : (List.replicate F.length (0 : Int)).set j (((List.count j [] : Nat) : Int) + 1) = (List.replicate F.length (0 : Int)).set j 1 := rfl
          rw [hset] at R1
          have h00 : ([(j : Int)] : List Int)[0]? = some (j : Int) := rfl
          have hx0 : S[0]? = some (f, [j], qx, cx) := by rw [hSx]; rfl
          have hlot : (Value.slice qx 1 cx, ([(j : Int)] : List Int).map fI) ∈ (S.reverse).map lotI := by rw [hSx]; simp [lotI, slV, sI]
          refine run_heap (many_out pka hlot) ?_
          clear hS hSl eL hxs hset hlot hSx
          (repeat' (first | (apply run_qg 1; (focus rfl); (focus exact wt); (focus rfl); (focus (exact qg1))) | (apply run_qg 4; (focus rfl); (focus exact wt); (focus rfl); (focus (first | exact qg4 | exact qs4))) | (apply run_qg 6; (focus rfl); (focus exact wt); (focus rfl); (focus (first | exact qs6 | exact qg6 | exact q_max rfl rfl rfl | exact q_sliceData rfl rfl (by omega) | exact q_sliceDataN rfl rfl | exact q_unsafeStringN rfl rfl rfl | exact q_cap_slice rfl rfl))) | refine cod_seq ?_ | refine cod_region ?_ | refine run_nil ?_ | refine pst_then ?_ | (apply cod_cond_t; (focus rfl))))
          refine run_qs wt rfl (q_index_own (i := 0) rfl rfl rfl pka rfl (by omega)) ?_
          (repeat' (first | (apply run_qg 2; (focus rfl); (focus exact wt); (focus rfl); (focus (first | exact qg2 | exact qs2))) | (apply run_qg 3; (focus rfl); (focus exact wt); (focus rfl); (focus (first | exact qg3 | exact qs3)))))
          refine run_qs wt rfl (q_index_sl (i := 0) (v := .slice qx 1 cx) rfl rfl rfl pka rfl (by simp)) ?_
          (repeat' (first | (apply run_qg 2; (focus rfl); (focus exact wt); (focus rfl); (focus (first | exact qg2 | exact qs2))) | (apply run_qg 3; (focus rfl); (focus exact wt); (focus rfl); (focus (first | exact qg3 | exact qs3)))))
          (refine run_on wt (opr_store_ownm (f := fI) (q' := 1) rfl rfl rfl rfl (by exact pka) rfl (by omega) (by intro _; rfl) (by assumption) rfl rfl (by rfl)) ?_; rintro _ _ ⟨rfl, rfl⟩)
          (repeat' (first | (apply run_qg 1; (focus rfl); (focus exact wt); (focus rfl); (focus (exact qg1))) | (apply run_qg 4; (focus rfl); (focus exact wt); (focus rfl); (focus (first | exact qg4 | exact qs4))) | (apply run_qg 6; (focus rfl); (focus exact wt); (focus rfl); (focus (first | exact qs6 | exact qg6 | exact q_max rfl rfl rfl | exact q_sliceData rfl rfl (by omega) | exact q_sliceDataN rfl rfl | exact q_unsafeStringN rfl rfl rfl | exact q_cap_slice rfl rfl))) | refine cod_seq ?_ | refine cod_region ?_ | refine run_nil ?_ | refine pst_then ?_ | (apply cod_cond_t; (focus rfl)) | refine cod_ret ?_ | refine pst_then_ret ?_))
          exact pst_fin rfl (by exact resa) _ (R1 _ _) (by exact hsa)
        · have hS0 : S.length = 0 := by omega
          have hp0 : posF F F.length = [] := List.eq_nil_of_length_eq_zero (by omega)
          rw [hp0, cnt_nil] at R1
          clear hS hSl eL
          (repeat' (first | (apply run_qg 1; (focus rfl); (focus exact wt); (focus rfl); (focus (exact qg1))) | (apply run_qg 4; (focus rfl); (focus exact wt); (focus rfl); (focus (first | exact qg4 | exact qs4))) | (apply run_qg 6; (focus rfl); (focus exact wt); (focus rfl); (focus (first | exact qs6 | exact qg6 | exact q_max rfl rfl rfl | exact q_sliceData rfl rfl (by omega) | exact q_sliceDataN rfl rfl | exact q_unsafeStringN rfl rfl rfl | exact q_cap_slice rfl rfl))) | refine cod_seq ?_ | refine cod_region ?_ | refine run_nil ?_ | refine pst_then ?_ | (apply cod_cond_t; (focus rfl)) | (apply cod_cond_f; (focus rfl)) | refine cod_ret ?_ | refine cod_skip ?_ | refine pst_then_ret ?_))
          exact pst_fin rfl (by exact resa) _ (R1 _ _) (by exact hsa)
      · have hidl : (idxF F).length = S.length := by rw [(idx_perm F).length_eq, hSl]
        have eL : lensL F ((m + 1 : Nat) : Int) = cntL F.length (signs ((lists (single (wF F) (idxF F)) m).take (2 * S.length - 2))) := by unfold lensL; rw [if_neg (by omega), hidl]; rfl
        rw [eL] at R1
        have hT : (sortW S).map stp = single (wF F) (idxF F) := by rw [sort_stp, hS, single_idx]
        have hTl : (sortW S).length = S.length := sortW_len S
        have hTm : ∀ x ∈ sortW S, x ∈ S.reverse := fun x hx => List.mem_reverse.2 (sortW_mem.1 hx)
        have hfine := fine_single h
        have hSb : ∀ x ∈ S.map cvOf, 0 ≤ x.1 ∧ x.1 ≤ 1000000000000 := fun x hx => by
          obtain ⟨y, hy, rfl⟩ := List.mem_map.1 hx
          have h3 : stp y ∈ single (wF F) (idxF F) := by rw [← hT]; exact List.mem_map_of_mem (sortW_mem.2 hy)
          have h4 := (hfine _ h3).2
          have h5 : 0 ≤ y.1 ∧ y.1 ≤ 1048576 * ((2 ^ 0 : Nat) : Int) := h4
          show 0 ≤ y.1 ∧ y.1 ≤ 1000000000000
          omega
        have SRT := fun kb => sort_any q1 c1 kb (S.map cvOf) S.length (by rw [List.length_map]) (by omega) (by omega) hSb
        rw [← sort_map, flat_fX, flat_fX] at SRT
        clear hS eL hSb
        generalize sortW S = T at *
        (repeat' (first | (apply run_qg 1; (focus rfl); (focus exact wt); (focus rfl); (focus (exact qg1))) | (apply run_qg 4; (focus rfl); (focus exact wt); (focus rfl); (focus (first | exact qg4 | exact qs4))) | (apply run_qg 6; (focus rfl); (focus exact wt); (focus rfl); (focus (first | exact qs6 | exact qg6 | exact q_max rfl rfl rfl | exact q_sliceData rfl rfl (by omega) | exact q_sliceDataN rfl rfl | exact q_unsafeStringN rfl rfl rfl | exact q_cap_slice rfl rfl))) | refine cod_seq ?_ | refine cod_region ?_ | refine run_nil ?_ | refine pst_then ?_ | (apply cod_cond_f; (focus rfl)) | refine cod_skip ?_))
        (refine run_os wt rfl (opr_call_l rfl (by_any) rfl (by exact lpa)) ?_; rintro _ _ ⟨_, ⟨kb, rfl, rfl⟩, rfl⟩; dsimp only [List.cons_append, List.nil_append])
        refine run_os wt rfl (opr_call_l rfl (SRT kb) rfl (Lp.out pka (Lp.view (KB_x kb) Lp.nil (view_box pka)))) ?_
        rintro _ _ ⟨_, ⟨rfl, rfl⟩, rfl⟩
        dsimp only [List.cons_append, List.nil_append]
        rw [← hTl] at R1 h2
        rw [← hTl]
        have hn320 : T.length ≤ 320 := by omega
        have hTw : T.length ≤ w := by omega
        have hm1 : ((m + 1 : Nat) : Int) - 1 = (m : Int) := by omega
        refine run_heap (heap_sl (f := fX) (ys := T) pka (fun _ => rfl) rfl) ?_
        clear SRT hSl hover
        have hTS : ∀ x ∈ T, x ∈ S.reverse := hTm
        generalize S.reverse = tab0 at *
        (repeat' (first | (apply run_qg 1; (focus rfl); (focus exact wt); (focus rfl); (focus (exact qg1))) | (apply run_qg 4; (focus rfl); (focus exact wt); (focus rfl); (focus (first | exact qg4 | exact qs4))) | refine cod_seq ?_ | refine cod_region ?_ | refine run_nil ?_ | refine pst_then ?_ | refine cod_block ?_))
        rw [hm1]
        (refine cod_loop_rw (σ := Nat × List XC × Option Addr × Nat × List XC) (fun s => (s.1 ≤ m ∧ s.2.1.map stp = lists (single (wF F) (idxF F)) s.1) ∧ ((∀ x ∈ s.2.1, x ∈ s.2.2.2.2) ∧ ∀ x ∈ T, x ∈ s.2.2.2.2)) (fun s => [(73, .int .i64 (s.1 : Int)), (11, .slice s.2.2.1 s.2.1.length s.2.2.2.1)]) (fun s => [sl 2 (.slice s.2.2.1 s.2.1.length s.2.2.2.1) (s.2.1.map fX), many 1 (s.2.2.2.2.map lotI)]) _ (fun s => m - s.1) ((0, T, q1, c1, tab0)) (by exact ⟨⟨Nat.zero_le _, hT⟩, hTS, hTS⟩) (by exact fsa) (by (first | exact HSub.of_picks_rest (by exact pca))) (fun ⟨k, L, qL, cL, tab⟩ ⟨⟨hk, hL⟩, hLt, hTt⟩ => ?_); dsimp only [List.cons_append, List.nil_append])
        dsimp only at hk hL hLt hTt
        have hLl : L.length ≤ 640 := by
          have h3 := lists_short (single (wF F) (idxF F)) k
          rw [← hL, ← hT, List.length_map, List.length_map] at h3
          omega
        have hpk : 2 ^ k ≤ 16384 := Nat.le_trans (Nat.pow_le_pow_right (by decide) (by omega : k ≤ 14)) (by decide)
        have hLf : ∀ x ∈ L, Fine F.length k (stp x) := fun x hx => fine_lists hfine k _ (by rw [← hL]; exact List.mem_map_of_mem hx)
        have hL1 : ∀ x ∈ L, 0 ≤ x.1 ∧ x.1 ≤ 1000000000000 := fun x hx => by
          have h3 : 0 ≤ x.1 ∧ x.1 ≤ 1048576 * ((2 ^ k : Nat) : Int) := (hLf x hx).2
          omega
        have hL2 : ∀ x ∈ L, x.2.1.length ≤ 16384 := fun x hx => by
          have h3 : x.2.1.length ≤ 2 ^ k := (hLf x hx).1.1
          omega
        rcases Nat.lt_or_ge k m with hlt | hge
        · have PR := pairs_any qL cL L tab (by omega) hLt hL1 fun x hx => by have := hL2 x hx; omega
          clear R1
          (repeat' (first | (apply run_qg 1; (focus rfl); (focus exact wt); (focus rfl); (focus (exact qg1))) | (apply run_qg 4; (focus rfl); (focus exact wt); (focus rfl); (focus (first | exact qg4 | exact qs4))) | refine cod_seq ?_ | refine cod_region ?_ | refine run_nil ?_ | refine pst_then ?_ | (apply cod_cond_t; (focus rfl)) | refine cod_block ?_ | refine cod_skip ?_))
          refine run_os wt rfl (opr_call_l rfl PR rfl (Lp.view (sl_excl _ _ _) (Lp.view rfl Lp.nil (View.same pka rfl)) (View.same pka (sl_excl _ _ _)))) ?_
          rintro _ _ ⟨_, ⟨ys, qy, cy, hys, rfl, rfl⟩, rfl⟩
          dsimp only [List.cons_append, List.nil_append]
          have hyl : ys.length ≤ 320 := by
            have h3 := congrArg List.length hys
            rw [List.length_map, pairs_len, List.length_map] at h3
            omega
          have MG := merged_any q1 qy c1 cy T ys (by omega) (by omega)
          have hN : (mrg T ys).map stp = lists (single (wF F) (idxF F)) (k + 1) := by rw [mrg_stp, hys, hT, hL]; rfl
          skip
          refine run_os wt rfl (opr_call_l rfl MG rfl lpa) ?_
          rintro _ _ ⟨_, ⟨qn, cn, rfl, rfl⟩, rfl⟩
          dsimp only [List.cons_append, List.nil_append]
          refine run_heap (heap_sl (f := fX) (ys := mrg T ys) pka (fun _ => rfl) rfl) ?_
          refine run_heap (bundle_many (tab := ys.reverse) pka) ?_
          refine run_heap (many_app pka pka) ?_
          rw [← List.map_append]
          (repeat' (first | (apply run_qg 1; (focus rfl); (focus exact wt); (focus rfl); (focus (exact qg1))) | (apply run_qg 4; (focus rfl); (focus exact wt); (focus rfl); (focus (first | exact qg4 | exact qs4))) | refine cod_region ?_ | refine run_nil ?_ | refine pst_then ?_ | refine pst_block ?_))
          refine pst_again ((k + 1, mrg T ys, qn, cn, ys.reverse ++ tab)) ?_ (FSub.of (by (try dsimp only); exact fsa)) (by (try dsimp only); exact hsa) ?_
          · refine ⟨⟨hlt, hN⟩, fun x hx => ?_, fun x hx => List.mem_append_right _ (hTt x hx)⟩
            rcases mrg_mem.1 hx with hx | hx
            · exact List.mem_append_right _ (hTt x hx)
            · exact List.mem_append_left _ (List.mem_reverse.2 hx)
          · dsimp only; omega
        · have hkm : k = m := by omega
          subst hkm
          have hen := lists_enough (s := single (wF F) (idxF F)) (L := k) (by rw [← hT, List.length_map, hw]; omega)
          rw [← hL, List.length_map, ← hT, List.length_map] at hen
          have hcast : 2 * (T.length : Int) - 2 = ((2 * T.length - 2 : Nat) : Int) := by omega
          rw [← hL] at R1
          clear hL hT hfine
          (repeat' (first | (apply run_qg 1; (focus rfl); (focus exact wt); (focus rfl); (focus (exact qg1))) | (apply run_qg 4; (focus rfl); (focus exact wt); (focus rfl); (focus (first | exact qg4 | exact qs4))) | (apply run_qg 6; (focus rfl); (focus exact wt); (focus rfl); (focus (first | exact qs6 | exact qg6 | exact q_max rfl rfl rfl | exact q_sliceData rfl rfl (by omega) | exact q_sliceDataN rfl rfl | exact q_unsafeStringN rfl rfl rfl | exact q_cap_slice rfl rfl))) | refine cod_seq ?_ | refine cod_region ?_ | refine run_nil ?_ | refine pst_then ?_ | (apply cod_cond_f; (focus rfl)) | refine cod_exit ?_ | refine pst_block_here ?_ | refine pst_then_exit ?_))
          rw [hcast]
          refine run_qs wt rfl (q_slice_h rfl rfl rfl pka rfl hen) ?_
          refine run_heap (heap_less pka (View.part (m := 2 * T.length - 2) (xs := L) Pick.here hen)) ?_
          have hMl : (L.take (2 * T.length - 2)).length = 2 * T.length - 2 := by rw [List.length_take]; omega
          have hMm : ∀ x ∈ L.take (2 * T.length - 2), x ∈ L := fun x hx => List.mem_of_mem_take hx
          rw [← List.map_take] at R1
          have hSg : ∀ k', (signs (((L.take (2 * T.length - 2)).take k').map stp)).length ≤ 16384 * 640 := fun k' => by
            refine Nat.le_trans (sign_len (B := 16384) fun c hc => ?_) ?_
            · obtain ⟨x, hx, rfl⟩ := List.mem_map.1 hc
              exact hL2 x (hMm x (List.mem_of_mem_take hx))
            · rw [List.length_map, List.length_take, hMl]
              exact Nat.mul_le_mul (Nat.le_refl _) (by omega)
          generalize 2 * T.length - 2 = M2 at *
          generalize L.take M2 = M at *
          rw [← cnt_nil]
          (repeat' (first | (apply run_qg 1; (focus rfl); (focus exact wt); (focus rfl); (focus (exact qg1))) | (apply run_qg 6; (focus rfl); (focus exact wt); (focus rfl); (focus (first | exact qs6 | exact qg6 | exact q_max rfl rfl rfl | exact q_sliceData rfl rfl (by omega) | exact q_sliceDataN rfl rfl | exact q_unsafeStringN rfl rfl rfl | exact q_cap_slice rfl rfl))) | refine run_nil ?_ | refine pst_then ?_ | refine cod_block ?_))
          (refine cod_loop_rw (σ := Nat) (fun k => k ≤ M2) (fun k => [(87, .int .i64 (k : Int))]) (fun k => [own (.slice qo F.length F.length) 3 1 F.length (flat fI (cntL F.length (signs ((M.take k).map stp))))]) _ (fun k => M2 - k) (0) (by exact Nat.zero_le _) (by exact fsa) (by (first | exact HSub.of_picks_rest (by exact pca))) (fun j hj => ?_); dsimp only [List.cons_append, List.nil_append])
          rcases Nat.lt_or_ge j M2 with hjl | hjg
          · obtain ⟨x, hxj⟩ : ∃ x, M[j]? = some x := ⟨_, List.getElem?_eq_getElem (by omega)⟩
            have hxL := hMm x (List.mem_of_getElem? hxj)
            have hsN := (hLf x hxL).1.2
            have hx2 := hL2 x hxL
            have hSj := hSg j
            have hnext : signs ((M.take (j + 1)).map stp) = signs ((M.take j).map stp) ++ x.2.1 := by
              rw [List.take_add_one, hxj, List.map_append]
              unfold signs
              rw [List.flatMap_append]
              simp [stp]
            have hsl : (sI x).length = x.2.1.length := by unfold sI; rw [List.length_map]
            generalize hSS : signs ((M.take j).map stp) = SS at *
            refine cod_heap (many_out pka (lot_mem (hLt x hxL))) ?_
            clear R1 hSg
            (repeat' (first | (apply run_qg 1; (focus rfl); (focus exact wt); (focus rfl); (focus (exact qg1))) | (apply run_qg 2; (focus rfl); (focus exact wt); (focus rfl); (focus (first | exact qg2 | exact qs2))) | (apply run_qg 3; (focus rfl); (focus exact wt); (focus rfl); (focus (first | exact qg3 | exact qs3))) | (apply run_qg 4; (focus rfl); (focus exact wt); (focus rfl); (focus (first | exact qg4 | exact qs4))) | (apply run_qg 6; (focus rfl); (focus exact wt); (focus rfl); (focus (first | exact qs6 | exact qg6 | exact q_max rfl rfl rfl | exact q_sliceData rfl rfl (by omega) | exact q_sliceDataN rfl rfl | exact q_unsafeStringN rfl rfl rfl | exact q_cap_slice rfl rfl))) | refine cod_seq ?_ | refine cod_region ?_ | refine run_nil ?_ | refine pst_then ?_ | (apply cod_cond_t; (focus rfl)) | refine cod_block ?_ | refine cod_skip ?_ | (apply run_osg 8; (focus rfl); (focus exact wt); (focus rfl); (focus (exact opr_new rfl)); (rintro _ _ ⟨b, rfl, rfl⟩)) | (apply run_ong 9; (focus rfl); (focus exact wt); (focus (exact opr_store_box_agg rfl rfl rfl (by exact pka) rfl rfl rfl (by exact spla))); (rintro _ _ ⟨rfl, rfl⟩))))
            rw [show SS = SS ++ x.2.1.take 0 by rw [List.take_zero, List.append_nil]]
            (refine cod_loop_rw (σ := Nat) (fun k => k ≤ x.2.1.length) (fun k => [(94, .int .i64 (k : Int))]) (fun k => [own (.slice qo F.length F.length) 3 1 F.length (flat fI (cntL F.length (SS ++ x.2.1.take k)))]) _ (fun k => x.2.1.length - k) (0) (by exact Nat.zero_le _) (by exact fsa) (by (first | exact HSub.of_picks_rest (by exact pca))) (fun u hu => ?_); dsimp only [List.cons_append, List.nil_append])
            rcases Nat.lt_or_ge u x.2.1.length with hul | hug
            · obtain ⟨z, hz⟩ : ∃ z, x.2.1[u]? = some z := ⟨_, List.getElem?_eq_getElem hul⟩
              have hzI : (sI x)[u]? = some (z : Int) := by unfold sI; rw [List.getElem?_map, hz]; rfl
              have hzN : z < F.length := hsN z (List.mem_of_getElem? hz)
              have hca := cnt_at (N := F.length) (SS ++ x.2.1.take u) hzN
              have hcs := cnt_set (N := F.length) (SS ++ x.2.1.take u) hzN
              have hcb : List.count z (SS ++ x.2.1.take u) ≤ 100000000 := by
                refine Nat.le_trans List.count_le_length ?_
                rw [List.length_append, List.length_take]
                omega
              have hnx : SS ++ x.2.1.take (u + 1) = SS ++ x.2.1.take u ++ [z] := by rw [List.take_add_one, hz, List.append_assoc]; rfl
              rw [← hnx] at hcs
              generalize List.count z (SS ++ x.2.1.take u) = cz at *
              generalize cntL F.length (SS ++ x.2.1.take u) = CU at *
              clear hnext hnx
              (repeat' (first | (apply run_qg 1; (focus rfl); (focus exact wt); (focus rfl); (focus (exact qg1))) | (apply run_qg 2; (focus rfl); (focus exact wt); (focus rfl); (focus (first | exact qg2 | exact qs2))) | (apply run_qg 3; (focus rfl); (focus exact wt); (focus rfl); (focus (first | exact qg3 | exact qs3))) | (apply run_qg 4; (focus rfl); (focus exact wt); (focus rfl); (focus (first | exact qg4 | exact qs4))) | refine cod_seq ?_ | refine cod_region ?_ | refine run_nil ?_ | refine pst_then ?_ | (apply cod_cond_t; (focus rfl)) | refine cod_block ?_ | refine cod_skip ?_))
              (refine run_on wt (opr_store_ownm (f := fI) (q' := (((cz : Nat) : Int) + 1)) rfl rfl rfl rfl (by exact pka) rfl (by omega) (by intro _; rfl) (by assumption) rfl rfl (by rfl)) ?_; rintro _ _ ⟨rfl, rfl⟩)
              rw [hcs]
              (repeat' (first | (apply run_qg 1; (focus rfl); (focus exact wt); (focus rfl); (focus (exact qg1))) | (apply run_qg 4; (focus rfl); (focus exact wt); (focus rfl); (focus (first | exact qg4 | exact qs4))) | refine cod_region ?_ | refine run_nil ?_ | refine pst_then ?_ | refine pst_block ?_))
              refine pst_again (u + 1) ?_ (FSub.of (by (try dsimp only); exact fsa)) (by (try dsimp only); exact hsa) ?_
              · exact hul
              · omega
            · have hul : u = x.2.1.length := by omega
              subst hul
              rw [List.take_length, ← hnext]
              (repeat' (first | (apply run_qg 1; (focus rfl); (focus exact wt); (focus rfl); (focus (exact qg1))) | (apply run_qg 4; (focus rfl); (focus exact wt); (focus rfl); (focus (first | exact qg4 | exact qs4))) | refine cod_seq ?_ | refine cod_region ?_ | refine run_nil ?_ | refine pst_then ?_ | (apply cod_cond_f; (focus rfl)) | refine cod_exit ?_ | refine pst_block_here ?_ | refine pst_then_exit ?_ | refine pst_block ?_))
              refine pst_again (j + 1) ?_ (FSub.of (by (try dsimp only); exact fsa)) (by (try dsimp only); exact hsa) ?_
              · exact hjl
              · omega
          · have hjM : j = M2 := by omega
            subst hjM
            rw [List.take_of_length_le (by omega)]
            clear hSg
            (repeat' (first | (apply run_qg 1; (focus rfl); (focus exact wt); (focus rfl); (focus (exact qg1))) | (apply run_qg 4; (focus rfl); (focus exact wt); (focus rfl); (focus (first | exact qg4 | exact qs4))) | refine cod_seq ?_ | refine cod_region ?_ | refine run_nil ?_ | refine pst_then ?_ | (apply cod_cond_f; (focus rfl)) | refine cod_exit ?_ | refine cod_ret ?_ | refine pst_block_here ?_ | refine pst_then_exit ?_))
            exact pst_fin rfl (by exact resa) _ (R1 _ _) (by exact hsa)
theorem lens_any (q : Option Addr) (c : Nat) (F : List Int) (most : Int) (hl : F.length ≤ 1000000000000000) :
    Ct Try.prog 9 [.slice q F.length c, .int .i64 most] [sl 1 (.slice q F.length c) (F.map fI)] (LensR F most) := by
  by_cases h : chkE F = 0 ∧ 1 ≤ most ∧ most ≤ 15
  · obtain ⟨h1, h2, h3⟩ := h
    obtain ⟨m, hm⟩ : ∃ m : Nat, most = ((m + 1 : Nat) : Int) := ⟨most.toNat - 1, by omega⟩
    subst hm
    exact lens_good q c F m (chk_zero.1 h1) (by omega)
  · exact lens_bad q c F most hl h
end Go.Proofs.Ytppnaofebkpbkaa.huff
/-
  huff.Lens: what its lengths are good for (no program).
-/
namespace Go.Proofs.Ytppnaofebkpbkaa.huff
open Go.RowKit kit sl Go.Proofs.Ytppnaofebkpbkaa.srt Go.Proofs.Ytppnaofebkpbkaa.hsort Go.Proofs.Ytppnaofebkpbkaa.pm
set_option linter.unusedVariables false
/-- lengths of a code for the signs that come, of M bits at most -/
def Right (F : List Int) (M : Nat) (l : Nat → Nat) : Prop := (∀ i ∈ posF F F.length, 1 ≤ l i ∧ l i ≤ M) ∧ sumN (fun i => 2 ^ (M - l i)) (posF F F.length) ≤ 2 ^ M
def costF (F : List Int) (l : Nat → Nat) : Int := sumI (fun i => wF F i * (l i : Int)) (posF F F.length)
structure LensOk (F : List Int) (M : Nat) (l : Nat → Nat) : Prop where
  none : ∀ i, i ∉ posF F F.length → l i = 0
  right : Right F M l
  order : ∀ i ∈ posF F F.length, ∀ j ∈ posF F F.length, wF F i < wF F j → l j ≤ l i
  least : ∀ l', Right F M l' → costF F l ≤ costF F l'
theorem lens_ok {F : List Int} {most : Int} (h : lensE F most = 0) : ∃ l : Nat → Nat, (∀ i, i < F.length → (lensL F most)[i]? = some (l i : Int)) ∧ LensOk F most.toNat l := by
  obtain ⟨hg, h1, h15, hn⟩ := lensE_zero h
  obtain ⟨m, hm⟩ : ∃ m : Nat, most = ((m + 1 : Nat) : Int) := ⟨most.toNat - 1, by omega⟩
  subst hm
  have hmt : ((m + 1 : Nat) : Int).toNat = m + 1 := by omega
  rw [hmt] at hn ⊢
  have hp := idx_perm F
  have hw0 : ∀ i ∈ posF F F.length, 0 < wF F i := fun i hi => (pos_mem.1 hi).2
  by_cases h2 : (idxF F).length < 2
  · refine ⟨fun i => List.count i (posF F F.length), fun i hi => ?_, ?_⟩
    · unfold lensL
      rw [if_pos h2]
      exact cnt_at _ hi
    · have hc1 : ∀ i ∈ posF F F.length, List.count i (posF F F.length) = 1 := fun i hi => by
        have h3 := List.nodup_iff_count.1 (pos_nodup F F.length) i
        have h4 := List.count_pos_iff.2 hi
        omega
      refine ⟨fun i hi => List.count_eq_zero.2 hi, ⟨fun i hi => by show 1 ≤ List.count i _ ∧ List.count i _ ≤ m + 1; rw [hc1 i hi]; omega, ?_⟩, fun i hi j hj _ => by show List.count j _ ≤ List.count i _; rw [hc1 i hi, hc1 j hj]; exact Nat.le_refl _, fun l' hl' => ?_⟩
      · have e : sumN (fun i => 2 ^ (m + 1 - List.count i (posF F F.length))) (posF F F.length) = sumN (fun _ => 2 ^ m) (posF F F.length) := sumN_congr fun i hi => by rw [hc1 i hi]; rfl
        have hl : (posF F F.length).length ≤ 1 := by rw [← hp.length_eq]; omega
        show sumN (fun i => 2 ^ (m + 1 - List.count i (posF F F.length))) (posF F F.length) ≤ _
        rw [e, sumN_const, Nat.pow_succ]
        exact Nat.mul_le_mul (Nat.le_refl _) (by omega)
      · unfold costF
        have hmono : ∀ l : List Nat, (∀ i ∈ l, wF F i * ((List.count i (posF F F.length) : Nat) : Int) ≤ wF F i * (l' i : Int)) → sumI (fun i => wF F i * ((List.count i (posF F F.length) : Nat) : Int)) l ≤ sumI (fun i => wF F i * (l' i : Int)) l := fun l => by
          induction l with
          | nil => intro _; exact Int.le_refl _
          | cons a l ih =>
            intro h3
            have h4 := h3 a List.mem_cons_self
            have h5 := ih fun i hi => h3 i (List.mem_cons_of_mem _ hi)
            simp only [sumI]
            omega
        refine hmono _ fun i hi => ?_
        have h3 := (hl'.1 i hi).1
        have h4 := hw0 i hi
        rw [hc1 i hi]
        exact Int.mul_le_mul_of_nonneg_left (by omega) (by omega)
  · have hs : pm.Srt (single (wF F) (idxF F)) := by
      have h3 := sortW_srt (single (wF F) (posF F F.length))
      rw [single_idx] at h3
      exact h3
    have hnd : (idxF F).Nodup := hp.nodup_iff.2 (pos_nodup F F.length)
    obtain ⟨_, b2, b3, b4, b5, b6⟩ := best (w := wF F) (idx := idxF F) (L := m) hs hnd (fun i hi => by have := hw0 i (hp.mem_iff.1 hi); omega) (by omega) (by rw [hp.length_eq]; exact hn)
    refine ⟨outP (wF F) (idxF F) m, fun i hi => ?_, ?_⟩
    · unfold lensL
      rw [if_neg h2, cnt_at _ hi]
      unfold outP
      rw [hmt]
      rfl
    · refine ⟨fun i hi => b3 i fun h3 => hi (hp.mem_iff.1 h3), ⟨fun i hi => b2 i (hp.mem_iff.2 hi), ?_⟩, fun i hi j hj hw => b5 i (hp.mem_iff.2 hi) j (hp.mem_iff.2 hj) hw, fun l' hl' => ?_⟩
      · rw [← sumN_perm _ hp]
        exact b4
      · unfold costF
        rw [← sumI_perm _ hp, ← sumI_perm _ hp]
        refine b6 l' (fun i hi => hl'.1 i (hp.mem_iff.1 hi)) ?_
        rw [sumN_perm _ hp]
        exact hl'.2
end Go.Proofs.Ytppnaofebkpbkaa.huff
/-
  huff.Cost, linenkeep.cost: the walks; what they answer.
-/
namespace Go.Proofs.Ytppnaofebkpbkaa.huff
open Go.RowKit kit sl Go.Proofs.Ytppnaofebkpbkaa.pm
set_option linter.unusedVariables false
theorem ct_of_sl {P : Program} {f : FuncId} {args : List Value} {u v : Value} {sz : Nat} {rows : List (List Value)} (h : ∀ W, SliceAt W sz v rows → Calls P f args.toArray W fun e w' => e = .returned u ∧ W = w') : Ct P f args [sl sz v rows] fun x H' => x = u ∧ H' = [] :=
  ⟨fun Fr w hw => (h w (hw.1 (sl sz v rows) List.mem_cons_self)).mono fun e w' ⟨h1, h2⟩ => ⟨u, [], h1, ⟨rfl, rfl⟩, by subst h2; exact hw.tail⟩⟩
def dotK (F O : List Int) : Nat → Int
  | 0 => 0
  | k + 1 => dotK F O k + F.getD k 0 * O.getD k 0
theorem dot_next {F O : List Int} {k : Nat} {f o : Int} (hf : F[k]? = some f) (ho : O[k]? = some o) : dotK F O (k + 1) = dotK F O k + f * o := by
  rw [dotK, List.getD_eq_getElem?_getD, hf, List.getD_eq_getElem?_getD, ho]
  rfl
theorem bad_none : ∀ {O : List Int}, (∀ o ∈ O, 0 ≤ o ∧ o ≤ 15) → lens.badX O = false
  | [], _ => rfl
  | o :: O, h => by
    have h1 := h o List.mem_cons_self
    rw [lens.badX, if_neg (by omega)]
    exact bad_none fun x hx => h x (List.mem_cons_of_mem _ hx)
theorem fill_ok {O : List Int} (h : ∀ o ∈ O, 0 ≤ o ∧ o ≤ 15) (hl : O.length ≤ 320) : lens.lensE O = 0 := by
  unfold lens.lensE
  rw [if_neg (by omega), bad_none h]
  rfl
theorem fill_ct (q : Option Addr) (c : Nat) (O : List Int) (h : ∀ o ∈ O, 0 ≤ o ∧ o ≤ 15) (hl : O.length ≤ 320) :
    Ct Try.prog 25 [.slice q O.length c] [sl 1 (.slice q O.length c) (O.map fI)] fun v H' => v = .tuple #[.int .i64 (lens.fillA O : Int), .int .i64 0] ∧ H' = [] := by
  have e := fill_ok h hl
  refine ct_of_sl fun W hW => ?_
  have := lens.fill_any (.slice q O.length c) O W hW (fun x hx => by
    have := h x hx
    simp [Lit.wf, IntKind.min, IntKind.max, IntKind.signed, IntKind.bits]
    omega) (by omega)
  rw [e] at this
  exact this
attribute [local irreducible] box own sl old bptr eptr Qt Opr Run Cod Pst Drn
set_option maxRecDepth 100000 in
set_option maxHeartbeats 8000000 in
theorem cost_good (qa qb : Option Addr) (ca cb : Nat) (F O : List Int) (n : Nat) (hn : F.length = n) (hO : O.length = n) (hg : GoodF F) (h : ∀ o ∈ O, 0 ≤ o ∧ o ≤ 15) :
    Ct Try.prog 10 [.slice qa n ca, .slice qb n cb] [sl 1 (.slice qa n ca) (F.map fI), sl 1 (.slice qb n cb) (O.map fI)] fun v H' => v = .tuple #[.int .i64 (dotK F O n), .int .i64 0] ∧ H' = [] := by
  have hn320 := hg.1
  have CK := check_any qa ca F (by omega)
  rw [chk_zero.2 hg, hn] at CK
  have FL := fill_ct qb cb O h (by omega)
  rw [hO] at FL
  (refine spec_enter Try.func10 Try.ntmps10 rfl rfl fun Fr => ?_; dsimp only [List.cons_append, List.nil_append, ini, Nat.reduceAdd])
  (repeat' (first | (apply run_qg 1; (focus rfl); (focus exact wt); (focus rfl); (focus (exact qg1))) | (apply run_qg 4; (focus rfl); (focus exact wt); (focus rfl); (focus (first | exact qg4 | exact qs4))) | (apply run_qg 6; (focus rfl); (focus exact wt); (focus rfl); (focus (first | exact qs6 | exact qg6 | exact q_max rfl rfl rfl | exact q_sliceData rfl rfl (by omega) | exact q_sliceDataN rfl rfl | exact q_unsafeStringN rfl rfl rfl | exact q_cap_slice rfl rfl))) | refine cod_seq ?_ | refine cod_region ?_ | refine run_nil ?_ | refine pst_then ?_ | (apply cod_cond_f; (focus rfl)) | refine cod_block ?_ | refine cod_skip ?_ | (apply run_osg 7; (focus rfl); (focus exact wt); (focus rfl); (focus (exact opr_call_ls (by rfl) (CK ..) (by rfl) lpa)); (rintro _ _ ⟨rfl, rfl⟩)) | (apply run_osg 7; (focus rfl); (focus exact wt); (focus rfl); (focus (exact opr_call_ls (by rfl) (FL ..) (by rfl) lpa)); (rintro _ _ ⟨rfl, rfl⟩))))
  (refine cod_loop_ro (σ := Nat × Int) (fun s => (s.1 ≤ n ∧ s.2 = dotK F O s.1) ∧ (0 ≤ s.2 ∧ s.2 ≤ 15728640 * (s.1 : Int))) (fun s => [(32, .int .i64 (s.1 : Int)), (9, .int .i64 s.2)]) (fun s => n - s.1) ((0, 0)) (by exact ⟨⟨Nat.zero_le _, rfl⟩, by decide, by decide⟩) (by exact fsa) (fun ⟨k, d⟩ ⟨⟨hk, hd⟩, hd0, hd1⟩ => ?_); dsimp only [List.cons_append, List.nil_append])
  dsimp only at hk hd hd0 hd1
  rcases Nat.lt_or_ge k n with hlt | hge
  · obtain ⟨f, hf⟩ : ∃ f, F[k]? = some f := ⟨_, List.getElem?_eq_getElem (by omega)⟩
    obtain ⟨o, ho⟩ : ∃ o, O[k]? = some o := ⟨_, List.getElem?_eq_getElem (by omega)⟩
    have hff := hg.2 f (List.mem_of_getElem? hf)
    have hoo := h o (List.mem_of_getElem? ho)
    have hN := dot_next hf ho
    rw [← hd] at hN
    have m1 : f * o ≤ 1048576 * 15 := Int.le_trans (Int.mul_le_mul_of_nonneg_right hff.2 hoo.1) (Int.mul_le_mul_of_nonneg_left hoo.2 (by decide))
    have m0 : 0 ≤ f * o := Int.mul_nonneg hff.1 hoo.1
    (repeat' (first | (apply run_qg 1; (focus rfl); (focus exact wt); (focus rfl); (focus (exact qg1))) | (apply run_qg 2; (focus rfl); (focus exact wt); (focus rfl); (focus (first | exact qg2 | exact qs2))) | (apply run_qg 3; (focus rfl); (focus exact wt); (focus rfl); (focus (first | exact qg3 | exact qs3))) | (apply run_qg 4; (focus rfl); (focus exact wt); (focus rfl); (focus (first | exact qg4 | exact qs4))) | refine cod_seq ?_ | refine cod_region ?_ | refine run_nil ?_ | refine pst_then ?_ | (apply cod_cond_t; (focus rfl)) | refine cod_block ?_ | refine cod_skip ?_ | refine pst_block ?_))
    refine pst_again ((k + 1, d + f * o)) ?_ (FSub.of (by (try dsimp only); exact fsa)) (by (try dsimp only); exact hsa) ?_
    · exact ⟨⟨hlt, hN.symm⟩, by dsimp only; omega, by dsimp only; omega⟩
    · dsimp only; omega
  · have hkn : k = n := by omega
    subst hkn
    subst hd
    (repeat' (first | (apply run_qg 1; (focus rfl); (focus exact wt); (focus rfl); (focus (exact qg1))) | (apply run_qg 4; (focus rfl); (focus exact wt); (focus rfl); (focus (first | exact qg4 | exact qs4))) | refine cod_seq ?_ | refine cod_region ?_ | refine run_nil ?_ | refine pst_then ?_ | (apply cod_cond_f; (focus rfl)) | refine cod_exit ?_ | refine cod_ret ?_ | refine pst_block_here ?_ | refine pst_then_exit ?_))
    exact pst_fin rfl (by exact resa) _ (⟨rfl, rfl⟩) (by exact hsa)
def costC (F : List Int) (most : Int) : Int := if lensE F most = 0 then dotK F (lensL F most) F.length else -1
theorem lens_in {F : List Int} {most : Int} (h : lensE F most = 0) : ∀ o ∈ lensL F most, 0 ≤ o ∧ o ≤ 15 := fun o ho => by
  obtain ⟨l, hl, hok⟩ := lens_ok h
  obtain ⟨_, h1, h15, _⟩ := lensE_zero h
  obtain ⟨i, hi⟩ := List.mem_iff_getElem?.1 ho
  have hil := (List.getElem?_eq_some_iff.1 hi).1
  rw [lens_len] at hil
  rw [hl i hil] at hi
  cases hi
  by_cases hp : i ∈ posF F F.length
  · have := (hok.right.1 i hp).2
    omega
  · rw [hok.none i hp]
    decide
set_option maxRecDepth 100000 in
set_option maxHeartbeats 8000000 in
theorem cost_any (q : Option Addr) (c : Nat) (F : List Int) (most : Int) (hl : F.length ≤ 1000000000000000) :
    Ct Try.prog 8 [.slice q F.length c, .int .i64 most] [sl 1 (.slice q F.length c) (F.map fI)] fun v H' => v = .int .i64 (costC F most) ∧ H' = [] := by
  have LN := lens_any q c F most hl
  by_cases h : lensE F most = 0
  · have hc : costC F most = dotK F (lensL F most) F.length := by unfold costC; rw [if_pos h]
    have LN : Ct Try.prog 9 [.slice q F.length c, .int .i64 most] [sl 1 (.slice q F.length c) (F.map fI)] fun v H' => ∃ q' c', v = .tuple #[.slice q' F.length c', .int .i64 0] ∧ H' = [own (.slice q' F.length c') 3 1 F.length (flat fI (lensL F most))] := ct_imp LN fun v H' h2 => by
      rcases h2 with ⟨_, h3⟩ | ⟨h3, _⟩
      · exact h3
      · exact absurd h h3
    have CG := fun q' c' => cost_good q q' c c' F (lensL F most) F.length rfl (lens_len F most) (lensE_zero h).1 (lens_in h)
    have hll := (lens_len F most).symm
    rw [hc]
    clear h hc
    generalize lensL F most = O at *
    (refine spec_enter Try.func8 Try.ntmps8 rfl rfl fun Fr => ?_; dsimp only [List.cons_append, List.nil_append, ini, Nat.reduceAdd])
    (repeat' (first | (apply run_qg 1; (focus rfl); (focus exact wt); (focus rfl); (focus (exact qg1))) | refine cod_seq ?_ | refine cod_region ?_ | refine run_nil ?_ | refine pst_then ?_))
    (refine run_os wt rfl (opr_call_l rfl (LN) rfl (by exact lpa)) ?_; rintro _ _ ⟨_, ⟨q1, c1, rfl, rfl⟩, rfl⟩; dsimp only [List.cons_append, List.nil_append])
    (repeat' (first | (apply run_qg 1; (focus rfl); (focus exact wt); (focus rfl); (focus (exact qg1))) | (apply run_qg 4; (focus rfl); (focus exact wt); (focus rfl); (focus (first | exact qg4 | exact qs4))) | refine cod_seq ?_ | refine cod_region ?_ | refine run_nil ?_ | refine pst_then ?_ | (apply cod_cond_f; (focus rfl)) | refine cod_ret ?_ | refine cod_skip ?_ | (apply run_osg 7; (focus rfl); (focus exact wt); (focus rfl); (focus (exact opr_call_ls (by rfl) (CG ..) (by rfl) lpa)); (rintro _ _ ⟨rfl, rfl⟩))))
    exact pst_fin rfl (by exact resa) _ (⟨rfl, rfl⟩) (by exact hsa)
  · have hc : costC F most = -1 := by unfold costC; rw [if_neg h]
    have LN : Ct Try.prog 9 [.slice q F.length c, .int .i64 most] [sl 1 (.slice q F.length c) (F.map fI)] fun v H' => v = .tuple #[.slice none 0 0, .int .i64 (lensE F most)] ∧ H' = [] := ct_imp LN fun v H' h2 => by
      rcases h2 with ⟨h3, _⟩ | ⟨_, h3⟩
      · exact absurd h3 h
      · exact h3
    rw [hc]
    clear hc
    generalize lensE F most = e at *
    (refine spec_enter Try.func8 Try.ntmps8 rfl rfl fun Fr => ?_; dsimp only [List.cons_append, List.nil_append, ini, Nat.reduceAdd])
    (repeat' (first | (apply run_qg 1; (focus rfl); (focus exact wt); (focus rfl); (focus (exact qg1))) | (apply run_qg 4; (focus rfl); (focus exact wt); (focus rfl); (focus (first | exact qg4 | exact qs4))) | refine cod_seq ?_ | refine cod_region ?_ | refine run_nil ?_ | refine pst_then ?_ | (apply cod_cond_t; (focus rfl)) | refine cod_ret ?_ | refine pst_then_ret ?_ | (apply run_osg 7; (focus rfl); (focus exact wt); (focus rfl); (focus (exact opr_call_ls (by rfl) (LN ..) (by rfl) lpa)); (rintro _ _ ⟨rfl, rfl⟩))))
    exact pst_fin rfl (by exact resa) _ (⟨rfl, rfl⟩) (by exact hsa)
/-- the sum over all signs is that over those that come -/
theorem dot_pos {F : List Int} {O : List Int} {l : Nat → Nat} (hl : ∀ i, i < F.length → O[i]? = some (l i : Int)) (hp : ∀ f ∈ F, 0 ≤ f) : ∀ n, n ≤ F.length → dotK F O n = sumI (fun i => wF F i * (l i : Int)) (posF F n)
  | 0, _ => rfl
  | n + 1, h => by
    obtain ⟨f, hf⟩ : ∃ f, F[n]? = some f := ⟨_, List.getElem?_eq_getElem h⟩
    have e : wF F n = f := by unfold wF; rw [List.getD_eq_getElem?_getD, hf]; rfl
    have h0 := hp f (List.mem_of_getElem? hf)
    rw [dot_next hf (hl n h), dot_pos hl hp n (by omega)]
    by_cases hfp : 0 < wF F n
    · rw [pos_next_t hfp, sumI_app]
      simp only [sumI, e]
      omega
    · rw [pos_next_f hfp]
      have : f = 0 := by omega
      rw [this]
      omega
theorem cost_is {F : List Int} {most : Int} (h : lensE F most = 0) : ∃ l, LensOk F most.toNat l ∧ costC F most = costF F l ∧ 0 ≤ costF F l := by
  obtain ⟨l, hl, hok⟩ := lens_ok h
  have hg := (lensE_zero h).1
  refine ⟨l, hok, ?_, ?_⟩
  · unfold costC costF
    rw [if_pos h]
    exact dot_pos hl (fun f hf => (hg.2 f hf).1) _ (Nat.le_refl _)
  · unfold costF
    have : ∀ p : List Nat, (∀ i ∈ p, 0 < wF F i) → 0 ≤ sumI (fun i => wF F i * (l i : Int)) p := fun p => by
      induction p with
      | nil => intro _; exact Int.le_refl _
      | cons a p ih =>
        intro h2
        have h3 := h2 a List.mem_cons_self
        have h4 := ih fun i hi => h2 i (List.mem_cons_of_mem _ hi)
        have h5 : 0 ≤ wF F a * (l a : Int) := Int.mul_nonneg (by omega) (by omega)
        simp only [sumI]
        omega
    exact this _ fun i hi => (pos_mem.1 hi).2
end Go.Proofs.Ytppnaofebkpbkaa.huff
/-
  huff: more bits never cost more; no more than a code of one length; as many signs as a power of two, all equally often (no program).
-/
namespace Go.Proofs.Ytppnaofebkpbkaa.huff
open Go.RowKit kit sl Go.Proofs.Ytppnaofebkpbkaa.pm
set_option linter.unusedVariables false
theorem pow_one {M x : Nat} (h : x ≤ M) : 2 ^ (M + 1 - x) = 2 ^ (M - x) * 2 := by rw [show M + 1 - x = (M - x) + 1 by omega, Nat.pow_succ]
theorem right_up {F : List Int} {M : Nat} {l : Nat → Nat} (h : Right F M l) : Right F (M + 1) l := by
  refine ⟨fun i hi => by have := h.1 i hi; omega, ?_⟩
  have e : sumN (fun i => 2 ^ (M + 1 - l i)) (posF F F.length) = sumN (fun i => 2 ^ (M - l i)) (posF F F.length) * 2 := by
    rw [sumN_mul]
    exact sumN_congr fun i hi => pow_one (h.1 i hi).2
  rw [e, Nat.pow_succ]
  exact Nat.mul_le_mul_right _ h.2
theorem lens_up {F : List Int} {most : Int} (h : lensE F most = 0) (h2 : most < 15) : lensE F (most + 1) = 0 := by
  obtain ⟨hg, h1, h15, hn⟩ := lensE_zero h
  unfold lensE
  rw [if_neg (by rw [chk_zero.2 hg]; simp), if_neg (by omega), show (most + 1).toNat = most.toNat + 1 by omega, Nat.pow_succ, if_neg (by have := Nat.two_pow_pos most.toNat; omega)]
theorem cost_up {F : List Int} {most : Int} (h : lensE F most = 0) (h2 : most < 15) : costC F (most + 1) ≤ costC F most := by
  obtain ⟨l, hok, e, _⟩ := cost_is h
  obtain ⟨l', hok', e', _⟩ := cost_is (lens_up h h2)
  rw [e, e']
  refine hok'.least l ?_
  have h1 := (lensE_zero h).2.1
  rw [show (most + 1).toNat = most.toNat + 1 by omega]
  exact right_up hok.right
theorem sumI_mul (f : Nat → Int) (c : Int) : ∀ l, sumI f l * c = sumI (fun i => f i * c) l
  | [] => Int.zero_mul c
  | i :: l => by simp only [sumI, Int.add_mul, sumI_mul f c l]
theorem cost_flat {F : List Int} {most : Int} {w : Nat} (h : lensE F most = 0) (hw : 1 ≤ w) (hs : w = 1 ∨ 2 ^ (w - 1) < (posF F F.length).length) (hb : (posF F F.length).length ≤ 2 ^ w) : costC F most ≤ sumI (wF F) (posF F F.length) * (w : Int) := by
  obtain ⟨l, hok, e, _⟩ := cost_is h
  obtain ⟨hg, h1, h15, hn⟩ := lensE_zero h
  have hwM : w ≤ most.toNat := by
    rcases hs with hs | hs
    · omega
    · rcases Nat.lt_or_ge most.toNat w with g | g
      · have := Nat.pow_le_pow_right (n := 2) (by decide) (by omega : most.toNat ≤ w - 1)
        omega
      · exact g
  rw [e, sumI_mul]
  refine hok.least (fun _ => w) ⟨fun i _ => ⟨hw, hwM⟩, ?_⟩
  show sumN (fun _ => 2 ^ (most.toNat - w)) _ ≤ _
  rw [sumN_const]
  refine Nat.le_trans (Nat.mul_le_mul (Nat.le_refl _) hb) ?_
  rw [← Nat.pow_add]
  exact Nat.pow_le_pow_right (by decide) (by omega)
theorem curve : ∀ a : Fin 15, ∀ K : Fin 15, ((2 : Int) ^ K.val * (4 + 3 * ((a.val : Int) - (K.val : Int))) ≤ 4 * 2 ^ a.val) ∧ (a ≠ K → (2 : Int) ^ K.val * (4 + 3 * ((a.val : Int) - (K.val : Int))) < 4 * 2 ^ a.val) := by decide +kernel
theorem sum_strict {f g : Nat → Int} : ∀ {l : List Nat}, (∀ i ∈ l, f i ≤ g i) → (∃ i ∈ l, f i < g i) → sumI f l < sumI g l
  | [], _, h => by obtain ⟨i, hi, _⟩ := h; cases hi
  | x :: l, h, h2 => by
    have h3 := h x List.mem_cons_self
    have h4 : sumI f l ≤ sumI g l := by
      have : ∀ l : List Nat, (∀ i ∈ l, f i ≤ g i) → sumI f l ≤ sumI g l := fun l => by
        induction l with
        | nil => intro _; exact Int.le_refl _
        | cons y l ih =>
          intro h
          have a1 := h y List.mem_cons_self
          have a2 := ih fun i hi => h i (List.mem_cons_of_mem _ hi)
          simp only [sumI]
          omega
      exact this l fun i hi => h i (List.mem_cons_of_mem _ hi)
    obtain ⟨i, hi, h5⟩ := h2
    simp only [sumI]
    rcases List.mem_cons.1 hi with rfl | hi
    · omega
    · have := sum_strict (fun j hj => h j (List.mem_cons_of_mem _ hj)) ⟨i, hi, h5⟩
      omega
theorem sumI_const (c : Int) : ∀ l, sumI (fun _ => c) l = c * (l.length : Int)
  | [] => by simp [sumI]
  | i :: l => by
    simp only [sumI, sumI_const c l, List.length_cons, Int.natCast_add, Int.mul_add]
    omega
theorem sumI_cast (f : Nat → Nat) : ∀ l, sumI (fun i => (f i : Int)) l = ((sumN f l : Nat) : Int)
  | [] => rfl
  | i :: l => by simp only [sumI, sumN, sumI_cast f l, Int.natCast_add]
/-- as many as a power of two, all equally often -/
theorem even_law {k : Nat} {f : Int} (hk : 1 ≤ k ∧ k ≤ 8) (hf : 1 ≤ f ∧ f ≤ 1048576) : lensE (List.replicate (2 ^ k) f) 15 = 0 ∧ lensL (List.replicate (2 ^ k) f) 15 = List.replicate (2 ^ k) (k : Int) := by
  have hp8 : 2 ^ k ≤ 256 := Nat.le_trans (Nat.pow_le_pow_right (by decide) hk.2) (by decide)
  have hlen : (List.replicate (2 ^ k) f).length = 2 ^ k := List.length_replicate
  have hg : GoodF (List.replicate (2 ^ k) f) := ⟨by rw [hlen]; omega, fun x hx => by rw [List.eq_of_mem_replicate hx]; omega⟩
  have hwf : ∀ i, i < 2 ^ k → wF (List.replicate (2 ^ k) f) i = f := fun i hi => by
    unfold wF
    rw [List.getD_eq_getElem?_getD, List.getElem?_replicate, if_pos hi]
    rfl
  have hpos : posF (List.replicate (2 ^ k) f) (2 ^ k) = List.range (2 ^ k) := by
    unfold posF
    rw [List.filter_eq_self]
    intro i hi
    rw [hwf i (List.mem_range.1 hi)]
    simp
    omega
  have hE : lensE (List.replicate (2 ^ k) f) 15 = 0 := by
    unfold lensE
    rw [if_neg (by rw [chk_zero.2 hg]; simp), if_neg (by decide), hlen, hpos, List.length_range, if_neg]
    show ¬ 2 ^ 15 < 2 ^ k
    omega
  refine ⟨hE, ?_⟩
  obtain ⟨l, hl, hok⟩ := lens_ok hE
  have h15 : (15 : Int).toNat = 15 := rfl
  rw [h15] at hok
  have hkk : 2 ^ k * 2 ^ (15 - k) = 2 ^ 15 := by rw [← Nat.pow_add, show k + (15 - k) = 15 by omega]
  have hr : Right (List.replicate (2 ^ k) f) 15 fun _ => k := ⟨fun i _ => (⟨hk.1, by omega⟩ : 1 ≤ k ∧ k ≤ 15), by
    show sumN (fun _ => 2 ^ (15 - k)) _ ≤ _
    rw [sumN_const, hlen, hpos, List.length_range, Nat.mul_comm, hkk]
    exact Nat.le_refl _⟩
  have hle := hok.least _ hr
  have hkr := hok.right.2
  have hin := hok.right.1
  unfold costF at hle
  rw [hlen, hpos] at hle hkr hin
  have hle2 : sumI (fun i => (l i : Int)) (List.range (2 ^ k)) ≤ (k : Int) * ((2 ^ k : Nat) : Int) := by
    have e1 : sumI (fun i => wF (List.replicate (2 ^ k) f) i * (l i : Int)) (List.range (2 ^ k)) = sumI (fun i => (l i : Int)) (List.range (2 ^ k)) * f := by
      rw [sumI_mul]
      exact sumI_congr fun i hi => by rw [hwf i (List.mem_range.1 hi), Int.mul_comm]
    have e2 : sumI (fun i => wF (List.replicate (2 ^ k) f) i * ((k : Nat) : Int)) (List.range (2 ^ k)) = ((k : Int) * ((2 ^ k : Nat) : Int)) * f := by
      have e3 : sumI (fun i => wF (List.replicate (2 ^ k) f) i * ((k : Nat) : Int)) (List.range (2 ^ k)) = sumI (fun _ => (k : Int) * f) (List.range (2 ^ k)) := sumI_congr fun i hi => by rw [hwf i (List.mem_range.1 hi), Int.mul_comm]
      rw [e3, sumI_const, List.length_range, Int.mul_assoc, Int.mul_comm f, ← Int.mul_assoc]
    rw [e1, e2] at hle
    exact Int.le_of_mul_le_mul_right hle (by omega)
  have hall : ∀ j, j < 2 ^ k → l j = k := fun j hj => by
    by_cases hne : l j = k
    · exact hne
    · exfalso
      have hb : ∀ i ∈ List.range (2 ^ k), 1 ≤ l i ∧ l i ≤ 15 := hin
      have hcur : ∀ i ∈ List.range (2 ^ k), (2 : Int) ^ (15 - k) * (4 + 3 * (((15 - l i : Nat) : Int) - ((15 - k : Nat) : Int))) ≤ 4 * ((2 ^ (15 - l i) : Nat) : Int) := fun i hi => by
        have hbi := hb i hi
        have := (curve ⟨15 - l i, by omega⟩ ⟨15 - k, by omega⟩).1
        rw [show ((2 ^ (15 - l i) : Nat) : Int) = (2 : Int) ^ (15 - l i) by simp]
        exact this
      have hst : (2 : Int) ^ (15 - k) * (4 + 3 * (((15 - l j : Nat) : Int) - ((15 - k : Nat) : Int))) < 4 * ((2 ^ (15 - l j) : Nat) : Int) := by
        have hbj := hb j (List.mem_range.2 hj)
        have := (curve ⟨15 - l j, by omega⟩ ⟨15 - k, by omega⟩).2 (fun e => hne (by have := congrArg Fin.val e; dsimp only at this; omega))
        rw [show ((2 ^ (15 - l j) : Nat) : Int) = (2 : Int) ^ (15 - l j) by simp]
        exact this
      have hsum := sum_strict hcur ⟨j, List.mem_range.2 hj, hst⟩
      have e4 : sumI (fun i => 4 * ((2 ^ (15 - l i) : Nat) : Int)) (List.range (2 ^ k)) = 4 * ((sumN (fun i => 2 ^ (15 - l i)) (List.range (2 ^ k)) : Nat) : Int) := by
        rw [← sumI_cast, Int.mul_comm, sumI_mul]
        exact sumI_congr fun i _ => Int.mul_comm _ _
      have e5 : sumI (fun i => (2 : Int) ^ (15 - k) * (4 + 3 * (((15 - l i : Nat) : Int) - ((15 - k : Nat) : Int)))) (List.range (2 ^ k)) = (4 * ((2 ^ k : Nat) : Int) + 3 * ((k : Int) * ((2 ^ k : Nat) : Int) - sumI (fun i => (l i : Int)) (List.range (2 ^ k)))) * (2 : Int) ^ (15 - k) := by
        have e6 : sumI (fun i => 4 + 3 * ((k : Int) - (l i : Int))) (List.range (2 ^ k)) = 4 * ((2 ^ k : Nat) : Int) + 3 * ((k : Int) * ((2 ^ k : Nat) : Int) - sumI (fun i => (l i : Int)) (List.range (2 ^ k))) := by
          have : ∀ p : List Nat, sumI (fun i => 4 + 3 * ((k : Int) - (l i : Int))) p = 4 * (p.length : Int) + 3 * ((k : Int) * (p.length : Int) - sumI (fun i => (l i : Int)) p) := fun p => by
            induction p with
            | nil => simp [sumI]
            | cons a p ih =>
              simp only [sumI, ih, List.length_cons, Int.natCast_add, Int.mul_add]
              omega
          rw [this, List.length_range]
        rw [← e6, sumI_mul]
        exact sumI_congr fun i hi => by
          have := hb i hi
          rw [show (((15 - l i : Nat) : Int) - ((15 - k : Nat) : Int)) = (k : Int) - (l i : Int) by omega, Int.mul_comm]
      rw [e4, e5] at hsum
      have hp0 : (0 : Int) < (2 : Int) ^ (15 - k) := by
        rw [show ((2 : Int) ^ (15 - k)) = ((2 ^ (15 - k) : Nat) : Int) by simp]
        have := Nat.two_pow_pos (15 - k)
        omega
      have h6 : (4 * ((2 ^ k : Nat) : Int)) * (2 : Int) ^ (15 - k) ≤ (4 * ((2 ^ k : Nat) : Int) + 3 * ((k : Int) * ((2 ^ k : Nat) : Int) - sumI (fun i => (l i : Int)) (List.range (2 ^ k)))) * (2 : Int) ^ (15 - k) := Int.mul_le_mul_of_nonneg_right (by omega) (by omega)
      have h7 : (4 * ((2 ^ k : Nat) : Int)) * (2 : Int) ^ (15 - k) = 4 * ((2 ^ 15 : Nat) : Int) := by
        rw [Int.mul_assoc, ← hkk]
        simp
      rw [h7] at h6
      omega
  apply List.ext_getElem?
  intro i
  rw [List.getElem?_replicate]
  rcases Nat.lt_or_ge i (2 ^ k) with hi | hi
  · rw [if_pos hi, hl i (by rw [hlen]; exact hi), hall i hi]
  · rw [if_neg (by omega), List.getElem?_eq_none (by rw [lens_len, hlen]; exact hi)]
end Go.Proofs.Ytppnaofebkpbkaa.huff
