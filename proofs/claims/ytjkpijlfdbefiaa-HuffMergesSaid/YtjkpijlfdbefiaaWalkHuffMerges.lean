/-
  HuffMerges: the walk. (SAFE)
-/
import Derived.Test.YtjkpijlfdbefiaaHuffCost
import Derived.Test.YtjkpijlfdbefiaaMergeLaw
import Derived.Test.YtjkpijlfdbefiaaHuffComes
import Derived.Test.YtjkpijlfdbefiaaSlMany2
import Derived.Test.YtjkpijlfdbefiaaOpen2
namespace Go.Proofs.Ytjkpijlfdbefiaa.lawHuffMerges
open Go.RowKit kit sl Go.Proofs.Ytjkpijlfdbefiaa.huff Go.Proofs.Ytjkpijlfdbefiaa.pm
set_option linter.unusedVariables false
theorem cost_three : costC [5, 5, 5] 15 = 25 := by decide +kernel
theorem cost_least {F : List Int} (h : GoodF F) (W : List Int) (hW : ((posF F F.length).map (wF F)).Perm W) : Least W 15 (costC F 15) := by
  have hE : lensE F 15 = 0 := by
    unfold lensE
    rw [if_neg (by rw [chk_zero.2 h]; simp), if_neg (by decide), if_neg]
    have h1 := pos_len F F.length
    have h2 := h.1
    show ¬ 2 ^ 15 < _
    omega
  obtain ⟨l, hok, e, _⟩ := cost_is hE
  rw [e]
  exact least_perm hW (least_of hok)
theorem comes_good {F : List Int} (h : GoodF F) : ∀ w ∈ comes F F.length, 0 < w ∧ w ≤ 1048576 := fun w hw => by
  have h0 := fun i => wF_nonneg (fun f hf => (h.2 f hf).1) i
  obtain ⟨i, hi, e⟩ := List.mem_map.1 ((comes_perm h0 F.length).mem_iff.1 hw)
  obtain ⟨h1, h2⟩ := pos_mem.1 hi
  refine ⟨by omega, ?_⟩
  have e2 : wF F i = F[i] := by unfold wF; rw [List.getD_eq_getElem?_getD, List.getElem?_eq_getElem h1]; rfl
  rw [← e, e2]
  exact (h.2 _ (List.getElem_mem h1)).2
theorem less_pos {L : List Int} (h : ∀ w ∈ L, 0 < w) : ((posF L L.length).map (wF L)) = L := by
  have e : posF L L.length = List.range L.length := by
    unfold posF
    rw [List.filter_eq_self]
    intro i hi
    have hil := List.mem_range.1 hi
    have : wF L i = L[i] := by unfold wF; rw [List.getD_eq_getElem?_getD, List.getElem?_eq_getElem hil]; rfl
    rw [this]
    simp [h _ (List.getElem_mem hil)]
  rw [e]
  apply List.ext_getElem (by simp)
  intro i h1 h2
  simp only [List.getElem_map, List.getElem_range]
  unfold wF
  rw [List.getD_eq_getElem?_getD, List.getElem?_eq_getElem h2]
  rfl
theorem answer {F V : List Int} {a b : Int} (h : GoodF F) (hW : comes F F.length = V ++ [a, b]) (h1 : 1 ≤ V.length) (h16 : V.length + 2 ≤ 16) (hs : a + b ≤ 1048576) : costC F 15 = costC (V ++ [b + a]) 15 + b + a := by
  have hg := comes_good h
  have hf := comes_fall F F.length
  have h0 := fun i => wF_nonneg (fun f hf => (h.2 f hf).1) i
  have hp := (comes_perm h0 F.length).symm
  rw [hW] at hg hf hp
  have ha := hg a (by simp)
  have hb := hg b (by simp)
  obtain ⟨f1, f2, f3⟩ := List.pairwise_append.1 hf
  have hba : b ≤ a := (List.pairwise_cons.1 f2).1 b (by simp)
  have hva : ∀ v ∈ V, a ≤ v := fun v hv => f3 v hv a (by simp)
  have hL : GoodF (V ++ [b + a]) := ⟨by rw [List.length_append, List.length_singleton]; omega, fun x hx => by
    rcases List.mem_append.1 hx with hx | hx
    · have := hg x (List.mem_append.2 (.inl hx))
      omega
    · rw [List.mem_singleton.1 hx]
      omega⟩
  have hLp : ∀ w ∈ V ++ [b + a], 0 < w := fun x hx => by
    rcases List.mem_append.1 hx with hx | hx
    · exact (hg x (List.mem_append.2 (.inl hx))).1
    · rw [List.mem_singleton.1 hx]
      omega
  have l1 := cost_least h (b :: a :: V) (hp.trans ((List.perm_append_comm).trans (List.Perm.swap _ _ _)))
  have l2 := cost_least hL ((a + b) :: V) (by
    rw [less_pos hLp, Int.add_comm a b]
    exact List.perm_append_comm)
  have := merge_law l1 l2 hb.1 hba hva (fun e => by rw [e] at h1; exact absurd h1 (by decide)) (by omega)
  omega
theorem dot_bd {F O : List Int} (hF : ∀ f ∈ F, 0 ≤ f ∧ f ≤ 1048576) (hO : ∀ o ∈ O, 0 ≤ o ∧ o ≤ 15) : ∀ k, k ≤ F.length → k ≤ O.length → 0 ≤ dotK F O k ∧ dotK F O k ≤ 15728640 * (k : Int)
  | 0, _, _ => by
    show (0 : Int) ≤ 0 ∧ (0 : Int) ≤ 15728640 * ((0 : Nat) : Int)
    decide
  | k + 1, h1, h2 => by
    obtain ⟨f, hf⟩ : ∃ f, F[k]? = some f := ⟨_, List.getElem?_eq_getElem h1⟩
    obtain ⟨o, ho⟩ : ∃ o, O[k]? = some o := ⟨_, List.getElem?_eq_getElem h2⟩
    have hff := hF f (List.mem_of_getElem? hf)
    have hoo := hO o (List.mem_of_getElem? ho)
    have m1 : f * o ≤ 1048576 * 15 := Int.le_trans (Int.mul_le_mul_of_nonneg_right hff.2 hoo.1) (Int.mul_le_mul_of_nonneg_left hoo.2 (by decide))
    have m0 : 0 ≤ f * o := Int.mul_nonneg hff.1 hoo.1
    have ih := dot_bd hF hO k (by omega) (by omega)
    rw [dot_next hf ho]
    omega
theorem cost_bd {F : List Int} {most : Int} : -1 ≤ costC F most ∧ costC F most ≤ 5033164800 := by
  by_cases h : lensE F most = 0
  · have hg := (lensE_zero h).1
    have hl := lens_len F most
    have := dot_bd hg.2 (lens_in h) F.length (Nat.le_refl _) (by omega)
    have h3 := hg.1
    unfold costC
    rw [if_pos h]
    omega
  · unfold costC
    rw [if_neg h]
    omega
theorem cut_two {W : List Int} (h : 2 ≤ W.length) : ∃ V a b, W = V ++ [a, b] ∧ V.length + 2 = W.length := by
  have h1 : W.length - 2 < W.length := by omega
  have h2 : W.length - 1 < W.length := by omega
  refine ⟨W.take (W.length - 2), W[W.length - 2], W[W.length - 1], ?_, by rw [List.length_take]; omega⟩
  have e1 : W.drop (W.length - 2) = W[W.length - 2] :: W.drop (W.length - 1) := by
    rw [List.drop_eq_getElem_cons h1]
    congr 2
    omega
  have e2 : W.drop (W.length - 1) = [W[W.length - 1]] := by
    rw [List.drop_eq_getElem_cons h2]
    congr 1
    exact List.drop_eq_nil_of_le (by omega)
  rw [← e2, ← e1, List.take_append_drop]
attribute [local irreducible] box own sl old bptr eptr Qt Opr Run Cod Pst Drn
set_option maxRecDepth 100000 in
set_option maxHeartbeats 8000000 in
theorem law_bad (q : Option Addr) (c : Nat) (F : List Int) (hl : F.length ≤ 1000000000000000) (h : chkE F ≠ 0) :
    Ct Try.prog 5 [.slice q F.length c] [sl 1 (.slice q F.length c) (F.map fI)] fun v H' => v = .bool true ∧ H' = [] := by
  have LIT := fun q c => cost_any q c [5, 5, 5] 15 (by decide)
  rw [cost_three] at LIT
  have FR := freq_any q c F hl
  have CA := cost_any q c F 15 hl
  have e : costC F 15 = -1 := by
    unfold costC lensE
    rw [if_pos h, if_neg h]
  rw [e] at CA
  generalize chkE F = ck at *
  (refine spec_enter Try.func5 Try.ntmps5 rfl rfl fun Fr => ?_; dsimp only [List.cons_append, List.nil_append, ini, Nat.reduceAdd])
  (repeat' (first | (apply run_qg 1; (focus rfl); (focus exact wt); (focus rfl); (focus (exact qg1))) | (apply run_qg 4; (focus rfl); (focus exact wt); (focus rfl); (focus (first | exact qg4 | exact qs4))) | refine cod_seq ?_ | refine cod_region ?_ | refine run_nil ?_ | refine pst_then ?_ | (apply cod_cond_t; (focus rfl)) | (apply cod_cond_f; (focus rfl)) | refine cod_ret ?_ | refine cod_skip ?_ | refine pst_then_ret ?_ | (apply run_osg 10; (focus rfl); (focus exact wt); (focus rfl); (focus (exact opr_buildSlice rfl rfl rfl (by exact blda) rfl rfl (by decide) rfl)); (rintro _ _ ⟨q, rfl, rfl⟩)) | (apply run_osg 7; (focus rfl); (focus exact wt); (focus rfl); (focus (exact opr_call_ls (by rfl) (LIT ..) (by rfl) lpa)); (rintro _ _ ⟨rfl, rfl⟩)) | (apply run_osg 7; (focus rfl); (focus exact wt); (focus rfl); (focus (exact opr_call_ls (by rfl) (FR ..) (by rfl) lpa)); (rintro _ _ ⟨rfl, rfl⟩)) | (apply run_osg 7; (focus rfl); (focus exact wt); (focus rfl); (focus (exact opr_call_ls (by rfl) (CA ..) (by rfl) lpa)); (rintro _ _ ⟨rfl, rfl⟩)) | fail))
  exact pst_fin rfl (by exact resa) _ (⟨rfl, rfl⟩) (by exact hsa)
set_option maxRecDepth 100000 in
set_option maxHeartbeats 8000000 in
theorem law_good (q : Option Addr) (c : Nat) (F : List Int) (hl : F.length ≤ 1000000000000000) (h : chkE F = 0) :
    Ct Try.prog 5 [.slice q F.length c] [sl 1 (.slice q F.length c) (F.map fI)] fun v H' => v = .bool true ∧ H' = [] := by
  have LIT := fun q c => cost_any q c [5, 5, 5] 15 (by decide)
  rw [cost_three] at LIT
  have FR := freq_any q c F hl
  rw [h] at FR
  have hg := chk_zero.1 h
  have CM := comes_any q c F (by have := hg.1; omega) hg.2
  have CA := cost_any q c F 15 hl
  have hcl := comes_len F F.length
  have hF320 := hg.1
  have hcg := comes_good hg
  have ANS := fun V a b h1 h2 h3 h4 => answer (V := V) (a := a) (b := b) hg h1 h2 h3 h4
  generalize comes F F.length = W at *
  generalize costC F 15 = A at *
  clear h hg
  rcases Nat.lt_or_ge W.length 3 with h3 | h3
  · (refine spec_enter Try.func5 Try.ntmps5 rfl rfl fun Fr => ?_; dsimp only [List.cons_append, List.nil_append, ini, Nat.reduceAdd])
    (repeat' (first | (apply run_qg 1; (focus rfl); (focus exact wt); (focus rfl); (focus (exact qg1))) | (apply run_qg 4; (focus rfl); (focus exact wt); (focus rfl); (focus (first | exact qg4 | exact qs4))) | refine cod_seq ?_ | refine cod_region ?_ | refine run_nil ?_ | refine pst_then ?_ | (apply cod_cond_f; (focus rfl)) | refine cod_skip ?_ | (apply run_osg 10; (focus rfl); (focus exact wt); (focus rfl); (focus (exact opr_buildSlice rfl rfl rfl (by exact blda) rfl rfl (by decide) rfl)); (rintro _ _ ⟨q, rfl, rfl⟩)) | (apply run_osg 7; (focus rfl); (focus exact wt); (focus rfl); (focus (exact opr_call_ls (by rfl) (LIT ..) (by rfl) lpa)); (rintro _ _ ⟨rfl, rfl⟩)) | (apply run_osg 7; (focus rfl); (focus exact wt); (focus rfl); (focus (exact opr_call_ls (by rfl) (FR ..) (by rfl) lpa)); (rintro _ _ ⟨rfl, rfl⟩)) | fail))
    (refine run_os wt rfl (opr_call_l rfl (CM) rfl (by exact lpa)) ?_; rintro _ _ ⟨_, ⟨q1, c1, rfl, rfl⟩, rfl⟩; dsimp only [List.cons_append, List.nil_append])
    refine run_heap (heap_sl (f := fI) (ys := W) pka (fun _ => rfl) rfl) ?_
    (repeat' (first | (apply run_qg 1; (focus rfl); (focus exact wt); (focus rfl); (focus (exact qg1))) | (apply run_qg 6; (focus rfl); (focus exact wt); (focus rfl); (focus (first | exact qs6 | exact qg6 | exact q_max rfl rfl rfl | exact q_sliceData rfl rfl (by omega) | exact q_sliceDataN rfl rfl | exact q_unsafeStringN rfl rfl rfl | exact q_cap_slice rfl rfl))) | refine cod_seq ?_ | refine cod_region ?_ | refine run_nil ?_ | refine pst_then ?_ | (apply cod_cond_t; (focus rfl)) | refine cod_ret ?_ | refine pst_then_ret ?_ | (apply cod_drawn_k; (focus kernel_rfl); (focus (simp only [List.length_cons, List.length_nil, Nat.reduceAdd]; rfl))) | (apply drnK_take 1; (focus rfl); (focus rfl); (focus exact wt); (focus (decide +kernel)); (focus exact hsq); (focus rfl); (focus (exact qg1))) | (apply drnK_take 4; (focus rfl); (focus rfl); (focus exact wt); (focus (decide +kernel)); (focus exact hsq); (focus rfl); (focus (first | exact qg4 | exact qs4))) | (apply drnK_off; (focus rfl); (focus rfl); (focus rfl); (focus (decide +kernel)); (focus exact hsq); (focus rfl)) | (apply drnK_end; (focus (decide +kernel))) | fail))
    exact pst_fin rfl (by exact resa) _ (⟨rfl, rfl⟩) (by exact hsa)
  rcases Nat.lt_or_ge 16 W.length with h16 | h16
  · (refine spec_enter Try.func5 Try.ntmps5 rfl rfl fun Fr => ?_; dsimp only [List.cons_append, List.nil_append, ini, Nat.reduceAdd])
    (repeat' (first | (apply run_qg 1; (focus rfl); (focus exact wt); (focus rfl); (focus (exact qg1))) | (apply run_qg 4; (focus rfl); (focus exact wt); (focus rfl); (focus (first | exact qg4 | exact qs4))) | refine cod_seq ?_ | refine cod_region ?_ | refine run_nil ?_ | refine pst_then ?_ | (apply cod_cond_f; (focus rfl)) | refine cod_skip ?_ | (apply run_osg 10; (focus rfl); (focus exact wt); (focus rfl); (focus (exact opr_buildSlice rfl rfl rfl (by exact blda) rfl rfl (by decide) rfl)); (rintro _ _ ⟨q, rfl, rfl⟩)) | (apply run_osg 7; (focus rfl); (focus exact wt); (focus rfl); (focus (exact opr_call_ls (by rfl) (LIT ..) (by rfl) lpa)); (rintro _ _ ⟨rfl, rfl⟩)) | (apply run_osg 7; (focus rfl); (focus exact wt); (focus rfl); (focus (exact opr_call_ls (by rfl) (FR ..) (by rfl) lpa)); (rintro _ _ ⟨rfl, rfl⟩)) | fail))
    (refine run_os wt rfl (opr_call_l rfl (CM) rfl (by exact lpa)) ?_; rintro _ _ ⟨_, ⟨q1, c1, rfl, rfl⟩, rfl⟩; dsimp only [List.cons_append, List.nil_append])
    refine run_heap (heap_sl (f := fI) (ys := W) pka (fun _ => rfl) rfl) ?_
    (repeat' (first | (apply run_qg 1; (focus rfl); (focus exact wt); (focus rfl); (focus (exact qg1))) | (apply run_qg 6; (focus rfl); (focus exact wt); (focus rfl); (focus (first | exact qs6 | exact qg6 | exact q_max rfl rfl rfl | exact q_sliceData rfl rfl (by omega) | exact q_sliceDataN rfl rfl | exact q_unsafeStringN rfl rfl rfl | exact q_cap_slice rfl rfl))) | refine cod_seq ?_ | refine cod_region ?_ | refine run_nil ?_ | refine pst_then ?_ | (apply cod_cond_t; (focus rfl)) | refine cod_ret ?_ | refine pst_then_ret ?_ | (apply cod_drawn_k; (focus kernel_rfl); (focus (simp only [List.length_cons, List.length_nil, Nat.reduceAdd]; rfl))) | (apply drnK_take 1; (focus rfl); (focus rfl); (focus exact wt); (focus (decide +kernel)); (focus exact hsq); (focus rfl); (focus (exact qg1))) | (apply drnK_take 4; (focus rfl); (focus rfl); (focus exact wt); (focus (decide +kernel)); (focus exact hsq); (focus rfl); (focus (first | exact qg4 | exact qs4))) | (apply drnK_off; (focus rfl); (focus rfl); (focus rfl); (focus (decide +kernel)); (focus exact hsq); (focus rfl)) | (apply drnK_end; (focus (decide +kernel))) | fail))
    exact pst_fin rfl (by exact resa) _ (⟨rfl, rfl⟩) (by exact hsa)
  obtain ⟨V, a, b, hW, hVl⟩ := cut_two (W := W) (by omega)
  obtain ⟨m, hm⟩ : ∃ m, V.length = m := ⟨_, rfl⟩
  have ga := hcg a (by rw [hW]; simp)
  have gb := hcg b (by rw [hW]; simp)
  have hn : W.length = m + 2 := by omega
  have xa : W[m]? = some a := by rw [hW, ← hm, List.getElem?_append_right (Nat.le_refl _), Nat.sub_self]; rfl
  have xb : W[m + 1]? = some b := by rw [hW, ← hm, List.getElem?_append_right (by omega), Nat.add_sub_cancel_left]; rfl
  have ht : W.take m = V := by rw [hW, ← hm, List.take_left' rfl]
  have AN := fun h => ANS V a b hW (by omega) (by omega) h
  have hmap : (W.map fI).length = m + 2 := by rw [List.length_map, hn]
  clear ANS hcg
  have hm1 : ((m + 2 : Nat) : Int) - 1 = ((m + 1 : Nat) : Int) := by omega
  have hm2 : ((m + 2 : Nat) : Int) - 2 = (m : Int) := by omega
  rw [hn] at CM
  by_cases hs : b + a ≤ 1048576
  · have CL := fun q c => cost_any q c (V ++ [b + a]) 15 (by rw [List.length_append, List.length_singleton]; omega)
    have AN := AN (by omega)
    have VL : (V ++ [b + a]).length = m + 1 := by rw [List.length_append, List.length_singleton, hm]
    rw [VL] at CL
    have hB := cost_bd (F := V ++ [b + a]) (most := 15)
    have hml : (W.take m).length = m := by rw [ht, hm]
    have CLN := fun q c => clone_I q c (W.take m) (by omega)
    rw [hml] at CLN
    obtain ⟨L, hL⟩ : ∃ L, L = V ++ [b + a] := ⟨_, rfl⟩
    rw [← hL] at CL AN hB VL
    generalize costC L 15 = B at *
    have hAB : A = B + b + a := AN
    clear AN
    subst hAB
    (refine spec_enter Try.func5 Try.ntmps5 rfl rfl fun Fr => ?_; dsimp only [List.cons_append, List.nil_append, ini, Nat.reduceAdd])
    (repeat' (first | (apply run_qg 1; (focus rfl); (focus exact wt); (focus rfl); (focus (exact qg1))) | (apply run_qg 4; (focus rfl); (focus exact wt); (focus rfl); (focus (first | exact qg4 | exact qs4))) | refine cod_seq ?_ | refine cod_region ?_ | refine run_nil ?_ | refine pst_then ?_ | (apply cod_cond_f; (focus rfl)) | refine cod_skip ?_ | (apply run_osg 10; (focus rfl); (focus exact wt); (focus rfl); (focus (exact opr_buildSlice rfl rfl rfl (by exact blda) rfl rfl (by decide) rfl)); (rintro _ _ ⟨q, rfl, rfl⟩)) | (apply run_osg 7; (focus rfl); (focus exact wt); (focus rfl); (focus (exact opr_call_ls (by rfl) (LIT ..) (by rfl) lpa)); (rintro _ _ ⟨rfl, rfl⟩)) | (apply run_osg 7; (focus rfl); (focus exact wt); (focus rfl); (focus (exact opr_call_ls (by rfl) (FR ..) (by rfl) lpa)); (rintro _ _ ⟨rfl, rfl⟩)) | fail))
    (refine run_os wt rfl (opr_call_l rfl (CM) rfl (by exact lpa)) ?_; rintro _ _ ⟨_, ⟨q1, c1, rfl, rfl⟩, rfl⟩; dsimp only [List.cons_append, List.nil_append])
    refine run_heap (heap_sl (f := fI) (ys := W) pka (fun _ => rfl) hn.symm) ?_
    (repeat' (first | (apply run_qg 1; (focus rfl); (focus exact wt); (focus rfl); (focus (exact qg1))) | (apply run_qg 6; (focus rfl); (focus exact wt); (focus rfl); (focus (first | exact qs6 | exact qg6 | exact q_max rfl rfl rfl | exact q_sliceData rfl rfl (by omega) | exact q_sliceDataN rfl rfl | exact q_unsafeStringN rfl rfl rfl | exact q_cap_slice rfl rfl))) | refine cod_seq ?_ | refine cod_region ?_ | refine run_nil ?_ | refine pst_then ?_ | (apply cod_drawn_k; (focus kernel_rfl); (focus (simp only [List.length_cons, List.length_nil, Nat.reduceAdd]; rfl))) | (apply drnK_take 1; (focus rfl); (focus rfl); (focus exact wt); (focus (decide +kernel)); (focus exact hsq); (focus rfl); (focus (exact qg1))) | (apply drnK_take 4; (focus rfl); (focus rfl); (focus exact wt); (focus (decide +kernel)); (focus exact hsq); (focus rfl); (focus (first | exact qg4 | exact qs4))) | (apply drnK_done; (focus (decide +kernel))) | (apply drnK_skip; (focus rfl)) | (apply drnK_wrap; (focus rfl)) | fail))
    rw [hm1, hm2]
    refine drnK_at 10 ?_
    (repeat' (first | refine cod_seq ?_ | refine pst_then ?_ | (apply cod_cond_f; (focus rfl)) | refine cod_skip ?_ | (apply drnK_take 1; (focus rfl); (focus rfl); (focus exact wt); (focus (decide +kernel)); (focus exact hsq); (focus rfl); (focus (exact qg1))) | (apply drnK_take 2; (focus rfl); (focus rfl); (focus exact wt); (focus (decide +kernel)); (focus exact hsq); (focus rfl); (focus (first | exact qg2 | exact qs2))) | (apply drnK_take 3; (focus rfl); (focus rfl); (focus exact wt); (focus (decide +kernel)); (focus exact hsq); (focus rfl); (focus (first | exact qg3 | exact qs3))) | (apply drnK_take 4; (focus rfl); (focus rfl); (focus exact wt); (focus (decide +kernel)); (focus exact hsq); (focus rfl); (focus (first | exact qg4 | exact qs4))) | (apply drnK_end; (focus (decide +kernel))) | (apply drnK_done; (focus (decide +kernel))) | fail))
    (refine cod_drawn_ks (Hq := [_]) [0] [] rfl (by kernel_rfl) (by simp only [List.length_cons, List.length_nil, Nat.reduceAdd]; rfl) ?_)
    (repeat' (first | (apply drnK_take 1; (focus rfl); (focus rfl); (focus exact wt); (focus (decide +kernel)); (focus exact hsq); (focus rfl); (focus (exact qg1))) | (apply drnK_take 4; (focus rfl); (focus rfl); (focus exact wt); (focus (decide +kernel)); (focus exact hsq); (focus rfl); (focus (first | exact qg4 | exact qs4))) | (apply drnK_done; (focus (decide +kernel))) | (apply drnK_skip; (focus rfl)) | (apply drnK_wrap; (focus rfl)) | fail))
    rw [hm1, hm2]
    (refine drnK_at 3 ?_; refine drnK_take _ rfl rfl wt (by decide +kernel) hsq rfl (q_slice_h (m := m) rfl rfl rfl pka rfl (by omega)) ?_)
    refine drnK_at 8 ?_
    (repeat' (first | (apply drnK_take 2; (focus rfl); (focus rfl); (focus exact wt); (focus (decide +kernel)); (focus exact hsq); (focus rfl); (focus (first | exact qg2 | exact qs2))) | (apply drnK_take 3; (focus rfl); (focus rfl); (focus exact wt); (focus (decide +kernel)); (focus exact hsq); (focus rfl); (focus (first | exact qg3 | exact qs3))) | (apply drnK_take 4; (focus rfl); (focus rfl); (focus exact wt); (focus (decide +kernel)); (focus exact hsq); (focus rfl); (focus (first | exact qg4 | exact qs4))) | (apply drnK_done; (focus (decide +kernel))) | (apply drnK_skip; (focus rfl)) | fail))
    (refine drnK_at 4 ?_; refine drnK_two 16 (by kernel_rfl) ?_ ?_)
    · (refine drnI_s 1 4 (by rfl) wt (by rfl) (opr_call_l rfl (CLN _ _) rfl lpa) ?_; rintro _ _ ⟨_, ⟨q2, c2, rfl, rfl⟩, rfl⟩; refine ⟨(by first | exact fun h => absurd h (by decide) | exact fun _ => hsq), ?_⟩; (try dsimp only [List.cons_append, List.nil_append]))
      (repeat' (first | (apply drnK_done; (focus (decide +kernel))) | (apply drnK_skip; (focus rfl)) | (apply drnK_wrap; (focus rfl)) | fail))
      (refine drnK_at 16 ?_; (first | refine drnK_ones _ (by rfl) (by rfl) (by kernel_rfl) wt (by rfl) (by exact opr_buildSlice rfl rfl rfl (by exact blda) rfl rfl (by decide) rfl) ?_ | refine drnK_onen _ (by rfl) (by rfl) (by kernel_rfl) wt (by exact opr_buildSlice rfl rfl rfl (by exact blda) rfl rfl (by decide) rfl) ?_); rintro _ _ ⟨q3, rfl, rfl⟩; refine ⟨(by first | exact fun h => absurd h (by decide) | exact fun _ => hsq), ?_⟩; (try dsimp only [List.cons_append, List.nil_append]))
      (refine drnK_at 17 ?_; (first | refine drnK_ones _ (by rfl) (by rfl) (by kernel_rfl) wt (by rfl) (by exact (by first | exact opr_append_lit0 (fI) [(b + a : Int)] rfl rfl rfl (by exact pka) (by rfl) (by rfl) (by intro _; rfl) (by (first | exact one_fS | exact one_fI | exact one_fB | exact one_fP | exact one_fIIS | exact one_fIIIS | exact one_fII | exact one_fSI | exact one_fIIU | exact one_fY | exact one_fBl | exact one_fT | exact one_fE | assumption)) rfl (by simp only [List.length_cons, List.length_nil]; omega) (by (unfold maxLen); simp only [List.length_cons, List.length_nil]; omega) | exact opr_append_lit (fI) [(b + a : Int)] rfl rfl rfl (by exact pka) (by exact pka) (by rfl) (by rfl) (by first | rfl | omega) (by intro _; rfl) (by (first | exact one_fS | exact one_fI | exact one_fB | exact one_fP | exact one_fIIS | exact one_fIIIS | exact one_fII | exact one_fSI | exact one_fIIU | exact one_fY | exact one_fBl | exact one_fT | exact one_fE | assumption)) rfl (by simp only [List.length_cons, List.length_nil]; omega) (by (unfold maxLen); simp only [List.length_cons, List.length_nil]; omega))) ?_ | refine drnK_onen _ (by rfl) (by rfl) (by kernel_rfl) wt (by exact (by first | exact opr_append_lit0 (fI) [(b + a : Int)] rfl rfl rfl (by exact pka) (by rfl) (by rfl) (by intro _; rfl) (by (first | exact one_fS | exact one_fI | exact one_fB | exact one_fP | exact one_fIIS | exact one_fIIIS | exact one_fII | exact one_fSI | exact one_fIIU | exact one_fY | exact one_fBl | exact one_fT | exact one_fE | assumption)) rfl (by simp only [List.length_cons, List.length_nil]; omega) (by (unfold maxLen); simp only [List.length_cons, List.length_nil]; omega) | exact opr_append_lit (fI) [(b + a : Int)] rfl rfl rfl (by exact pka) (by exact pka) (by rfl) (by rfl) (by first | rfl | omega) (by intro _; rfl) (by (first | exact one_fS | exact one_fI | exact one_fB | exact one_fP | exact one_fIIS | exact one_fIIIS | exact one_fII | exact one_fSI | exact one_fIIU | exact one_fY | exact one_fBl | exact one_fT | exact one_fE | assumption)) rfl (by simp only [List.length_cons, List.length_nil]; omega) (by (unfold maxLen); simp only [List.length_cons, List.length_nil]; omega))) ?_); rintro _ _ ⟨q4, c4, rfl, rfl⟩; refine ⟨(by first | exact fun h => absurd h (by decide) | exact fun _ => hsq), ?_⟩; (try dsimp only [List.cons_append, List.nil_append]))
      rw [ht, ← hL, VL]
      (repeat' (first | refine cod_seq ?_ | refine pst_then ?_ | (apply drnK_take 1; (focus rfl); (focus rfl); (focus exact wt); (focus (decide +kernel)); (focus exact hsq); (focus rfl); (focus (exact qg1))) | (apply drnK_end; (focus (decide +kernel))) | fail))
      (refine cod_drawn_ks (Hq := [_]) [1] [] rfl (by kernel_rfl) (by simp only [List.length_cons, List.length_nil, Nat.reduceAdd]; rfl) ?_)
      (repeat' (first | (apply drnK_take 1; (focus rfl); (focus rfl); (focus exact wt); (focus (decide +kernel)); (focus exact hsq); (focus rfl); (focus (exact qg1))) | (apply drnK_take 4; (focus rfl); (focus rfl); (focus exact wt); (focus (decide +kernel)); (focus exact hsq); (focus rfl); (focus (first | exact qg4 | exact qs4))) | (apply drnK_done; (focus (decide +kernel))) | (apply drnK_skip; (focus rfl)) | (apply drnK_wrap; (focus rfl)) | fail))
      rw [hm1, hm2]
      refine drnK_at 7 ?_
      (repeat' (first | (apply drnK_take 2; (focus rfl); (focus rfl); (focus exact wt); (focus (decide +kernel)); (focus exact hsq); (focus rfl); (focus (first | exact qg2 | exact qs2))) | (apply drnK_take 3; (focus rfl); (focus rfl); (focus exact wt); (focus (decide +kernel)); (focus exact hsq); (focus rfl); (focus (first | exact qg3 | exact qs3))) | (apply drnK_done; (focus (decide +kernel))) | (apply drnK_skip; (focus rfl)) | fail))
      (refine drnK_at 1 ?_; (first | refine drnK_ones _ (by rfl) (by rfl) (by kernel_rfl) wt (by rfl) (by exact (opr_call_ls rfl CA rfl lpa)) ?_ | refine drnK_onen _ (by rfl) (by rfl) (by kernel_rfl) wt (by exact (opr_call_ls rfl CA rfl lpa)) ?_); rintro _ _ ⟨rfl, rfl⟩; refine ⟨(by first | exact fun h => absurd h (by decide) | exact fun _ => hsq), ?_⟩; (try dsimp only [List.cons_append, List.nil_append]))
      (refine drnK_at 3 ?_; (first | refine drnK_ones _ (by rfl) (by rfl) (by kernel_rfl) wt (by rfl) (by exact (opr_call_ls rfl (CL _ _) rfl lpa)) ?_ | refine drnK_onen _ (by rfl) (by rfl) (by kernel_rfl) wt (by exact (opr_call_ls rfl (CL _ _) rfl lpa)) ?_); rintro _ _ ⟨rfl, rfl⟩; refine ⟨(by first | exact fun h => absurd h (by decide) | exact fun _ => hsq), ?_⟩; (try dsimp only [List.cons_append, List.nil_append]))
      refine drnK_at 9 ?_
      (repeat' (first | refine pst_then ?_ | refine cod_ret ?_ | (apply drnK_take 1; (focus rfl); (focus rfl); (focus exact wt); (focus (decide +kernel)); (focus exact hsq); (focus rfl); (focus (exact qg1))) | (apply drnK_take 4; (focus rfl); (focus rfl); (focus exact wt); (focus (decide +kernel)); (focus exact hsq); (focus rfl); (focus (first | exact qg4 | exact qs4))) | (apply drnK_end; (focus (decide +kernel))) | (apply drnK_done; (focus (decide +kernel))) | fail))
      exact pst_fin rfl (by exact resa) _ (⟨rfl, rfl⟩) (by exact hsa)
    · ((first | refine drnI_s 1 16 (by rfl) wt (by rfl) (by exact opr_buildSlice rfl rfl rfl (by exact blda) rfl rfl (by decide) rfl) ?_ | refine drnI_n 1 16 (by rfl) wt (by exact opr_buildSlice rfl rfl rfl (by exact blda) rfl rfl (by decide) rfl) ?_); rintro _ _ ⟨q3, rfl, rfl⟩; refine ⟨(by first | exact fun h => absurd h (by decide) | exact fun _ => hsq), ?_⟩; (try dsimp only [List.cons_append, List.nil_append]))
      (repeat' (first | (apply drnK_done; (focus (decide +kernel))) | (apply drnK_skip; (focus rfl)) | (apply drnK_wrap; (focus rfl)) | fail))
      (refine drnK_at 4 ?_; refine drnK_ones _ (by rfl) (by rfl) (by kernel_rfl) wt (by rfl) (opr_call_l rfl (CLN _ _) rfl lpa) ?_; rintro _ _ ⟨_, ⟨q2, c2, rfl, rfl⟩, rfl⟩; refine ⟨(by first | exact fun h => absurd h (by decide) | exact fun _ => hsq), ?_⟩; (try dsimp only [List.cons_append, List.nil_append]))
      (refine drnK_at 17 ?_; (first | refine drnK_ones _ (by rfl) (by rfl) (by kernel_rfl) wt (by rfl) (by exact (by first | exact opr_append_lit0 (fI) [(b + a : Int)] rfl rfl rfl (by exact pka) (by rfl) (by rfl) (by intro _; rfl) (by (first | exact one_fS | exact one_fI | exact one_fB | exact one_fP | exact one_fIIS | exact one_fIIIS | exact one_fII | exact one_fSI | exact one_fIIU | exact one_fY | exact one_fBl | exact one_fT | exact one_fE | assumption)) rfl (by simp only [List.length_cons, List.length_nil]; omega) (by (unfold maxLen); simp only [List.length_cons, List.length_nil]; omega) | exact opr_append_lit (fI) [(b + a : Int)] rfl rfl rfl (by exact pka) (by exact pka) (by rfl) (by rfl) (by first | rfl | omega) (by intro _; rfl) (by (first | exact one_fS | exact one_fI | exact one_fB | exact one_fP | exact one_fIIS | exact one_fIIIS | exact one_fII | exact one_fSI | exact one_fIIU | exact one_fY | exact one_fBl | exact one_fT | exact one_fE | assumption)) rfl (by simp only [List.length_cons, List.length_nil]; omega) (by (unfold maxLen); simp only [List.length_cons, List.length_nil]; omega))) ?_ | refine drnK_onen _ (by rfl) (by rfl) (by kernel_rfl) wt (by exact (by first | exact opr_append_lit0 (fI) [(b + a : Int)] rfl rfl rfl (by exact pka) (by rfl) (by rfl) (by intro _; rfl) (by (first | exact one_fS | exact one_fI | exact one_fB | exact one_fP | exact one_fIIS | exact one_fIIIS | exact one_fII | exact one_fSI | exact one_fIIU | exact one_fY | exact one_fBl | exact one_fT | exact one_fE | assumption)) rfl (by simp only [List.length_cons, List.length_nil]; omega) (by (unfold maxLen); simp only [List.length_cons, List.length_nil]; omega) | exact opr_append_lit (fI) [(b + a : Int)] rfl rfl rfl (by exact pka) (by exact pka) (by rfl) (by rfl) (by first | rfl | omega) (by intro _; rfl) (by (first | exact one_fS | exact one_fI | exact one_fB | exact one_fP | exact one_fIIS | exact one_fIIIS | exact one_fII | exact one_fSI | exact one_fIIU | exact one_fY | exact one_fBl | exact one_fT | exact one_fE | assumption)) rfl (by simp only [List.length_cons, List.length_nil]; omega) (by (unfold maxLen); simp only [List.length_cons, List.length_nil]; omega))) ?_); rintro _ _ ⟨q4, c4, rfl, rfl⟩; refine ⟨(by first | exact fun h => absurd h (by decide) | exact fun _ => hsq), ?_⟩; (try dsimp only [List.cons_append, List.nil_append]))
      rw [ht, ← hL, VL]
      (repeat' (first | refine cod_seq ?_ | refine pst_then ?_ | (apply drnK_take 1; (focus rfl); (focus rfl); (focus exact wt); (focus (decide +kernel)); (focus exact hsq); (focus rfl); (focus (exact qg1))) | (apply drnK_end; (focus (decide +kernel))) | fail))
      (refine cod_drawn_ks (Hq := [_]) [1] [] rfl (by kernel_rfl) (by simp only [List.length_cons, List.length_nil, Nat.reduceAdd]; rfl) ?_)
      (repeat' (first | (apply drnK_take 1; (focus rfl); (focus rfl); (focus exact wt); (focus (decide +kernel)); (focus exact hsq); (focus rfl); (focus (exact qg1))) | (apply drnK_take 4; (focus rfl); (focus rfl); (focus exact wt); (focus (decide +kernel)); (focus exact hsq); (focus rfl); (focus (first | exact qg4 | exact qs4))) | (apply drnK_done; (focus (decide +kernel))) | (apply drnK_skip; (focus rfl)) | (apply drnK_wrap; (focus rfl)) | fail))
      rw [hm1, hm2]
      refine drnK_at 7 ?_
      (repeat' (first | (apply drnK_take 2; (focus rfl); (focus rfl); (focus exact wt); (focus (decide +kernel)); (focus exact hsq); (focus rfl); (focus (first | exact qg2 | exact qs2))) | (apply drnK_take 3; (focus rfl); (focus rfl); (focus exact wt); (focus (decide +kernel)); (focus exact hsq); (focus rfl); (focus (first | exact qg3 | exact qs3))) | (apply drnK_done; (focus (decide +kernel))) | (apply drnK_skip; (focus rfl)) | fail))
      (refine drnK_at 1 ?_; (first | refine drnK_ones _ (by rfl) (by rfl) (by kernel_rfl) wt (by rfl) (by exact (opr_call_ls rfl CA rfl lpa)) ?_ | refine drnK_onen _ (by rfl) (by rfl) (by kernel_rfl) wt (by exact (opr_call_ls rfl CA rfl lpa)) ?_); rintro _ _ ⟨rfl, rfl⟩; refine ⟨(by first | exact fun h => absurd h (by decide) | exact fun _ => hsq), ?_⟩; (try dsimp only [List.cons_append, List.nil_append]))
      (refine drnK_at 3 ?_; (first | refine drnK_ones _ (by rfl) (by rfl) (by kernel_rfl) wt (by rfl) (by exact (opr_call_ls rfl (CL _ _) rfl lpa)) ?_ | refine drnK_onen _ (by rfl) (by rfl) (by kernel_rfl) wt (by exact (opr_call_ls rfl (CL _ _) rfl lpa)) ?_); rintro _ _ ⟨rfl, rfl⟩; refine ⟨(by first | exact fun h => absurd h (by decide) | exact fun _ => hsq), ?_⟩; (try dsimp only [List.cons_append, List.nil_append]))
      refine drnK_at 9 ?_
      (repeat' (first | refine pst_then ?_ | refine cod_ret ?_ | (apply drnK_take 1; (focus rfl); (focus rfl); (focus exact wt); (focus (decide +kernel)); (focus exact hsq); (focus rfl); (focus (exact qg1))) | (apply drnK_take 4; (focus rfl); (focus rfl); (focus exact wt); (focus (decide +kernel)); (focus exact hsq); (focus rfl); (focus (first | exact qg4 | exact qs4))) | (apply drnK_end; (focus (decide +kernel))) | (apply drnK_done; (focus (decide +kernel))) | fail))
      exact pst_fin rfl (by exact resa) _ (⟨rfl, rfl⟩) (by exact hsa)
  · (refine spec_enter Try.func5 Try.ntmps5 rfl rfl fun Fr => ?_; dsimp only [List.cons_append, List.nil_append, ini, Nat.reduceAdd])
    (repeat' (first | (apply run_qg 1; (focus rfl); (focus exact wt); (focus rfl); (focus (exact qg1))) | (apply run_qg 4; (focus rfl); (focus exact wt); (focus rfl); (focus (first | exact qg4 | exact qs4))) | refine cod_seq ?_ | refine cod_region ?_ | refine run_nil ?_ | refine pst_then ?_ | (apply cod_cond_f; (focus rfl)) | refine cod_skip ?_ | (apply run_osg 10; (focus rfl); (focus exact wt); (focus rfl); (focus (exact opr_buildSlice rfl rfl rfl (by exact blda) rfl rfl (by decide) rfl)); (rintro _ _ ⟨q, rfl, rfl⟩)) | (apply run_osg 7; (focus rfl); (focus exact wt); (focus rfl); (focus (exact opr_call_ls (by rfl) (LIT ..) (by rfl) lpa)); (rintro _ _ ⟨rfl, rfl⟩)) | (apply run_osg 7; (focus rfl); (focus exact wt); (focus rfl); (focus (exact opr_call_ls (by rfl) (FR ..) (by rfl) lpa)); (rintro _ _ ⟨rfl, rfl⟩)) | fail))
    (refine run_os wt rfl (opr_call_l rfl (CM) rfl (by exact lpa)) ?_; rintro _ _ ⟨_, ⟨q1, c1, rfl, rfl⟩, rfl⟩; dsimp only [List.cons_append, List.nil_append])
    refine run_heap (heap_sl (f := fI) (ys := W) pka (fun _ => rfl) hn.symm) ?_
    (repeat' (first | (apply run_qg 1; (focus rfl); (focus exact wt); (focus rfl); (focus (exact qg1))) | (apply run_qg 6; (focus rfl); (focus exact wt); (focus rfl); (focus (first | exact qs6 | exact qg6 | exact q_max rfl rfl rfl | exact q_sliceData rfl rfl (by omega) | exact q_sliceDataN rfl rfl | exact q_unsafeStringN rfl rfl rfl | exact q_cap_slice rfl rfl))) | refine cod_seq ?_ | refine cod_region ?_ | refine run_nil ?_ | refine pst_then ?_ | (apply cod_drawn_k; (focus kernel_rfl); (focus (simp only [List.length_cons, List.length_nil, Nat.reduceAdd]; rfl))) | (apply drnK_take 1; (focus rfl); (focus rfl); (focus exact wt); (focus (decide +kernel)); (focus exact hsq); (focus rfl); (focus (exact qg1))) | (apply drnK_take 4; (focus rfl); (focus rfl); (focus exact wt); (focus (decide +kernel)); (focus exact hsq); (focus rfl); (focus (first | exact qg4 | exact qs4))) | (apply drnK_done; (focus (decide +kernel))) | (apply drnK_skip; (focus rfl)) | (apply drnK_wrap; (focus rfl)) | fail))
    rw [hm1, hm2]
    refine drnK_at 10 ?_
    (repeat' (first | (apply run_qg 1; (focus rfl); (focus exact wt); (focus rfl); (focus (exact qg1))) | refine cod_seq ?_ | refine cod_region ?_ | refine run_nil ?_ | refine pst_then ?_ | (apply cod_cond_t; (focus rfl)) | refine cod_ret ?_ | refine pst_then_ret ?_ | (apply drnK_take 1; (focus rfl); (focus rfl); (focus exact wt); (focus (decide +kernel)); (focus exact hsq); (focus rfl); (focus (exact qg1))) | (apply drnK_take 2; (focus rfl); (focus rfl); (focus exact wt); (focus (decide +kernel)); (focus exact hsq); (focus rfl); (focus (first | exact qg2 | exact qs2))) | (apply drnK_take 3; (focus rfl); (focus rfl); (focus exact wt); (focus (decide +kernel)); (focus exact hsq); (focus rfl); (focus (first | exact qg3 | exact qs3))) | (apply drnK_take 4; (focus rfl); (focus rfl); (focus exact wt); (focus (decide +kernel)); (focus exact hsq); (focus rfl); (focus (first | exact qg4 | exact qs4))) | (apply drnK_end; (focus (decide +kernel))) | (apply drnK_done; (focus (decide +kernel))) | fail))
    exact pst_fin rfl (by exact resa) _ (⟨rfl, rfl⟩) (by exact hsa)
theorem walk (W : World) (a : Value) (F : List Int) (ha : SliceAt W 1 a (F.map fun i : Int => [Value.int .i64 i])) (ga : ∀ i ∈ F, (Lit.int .i64 i).wf = true) (na : F.length * Try.prog.bytesOf 3 ≤ reachBytes) :
    Calls Try.prog 5 #[a] W fun e w' => e = .returned (.bool true) ∧ Below W.heap.size W w' := by
  have hr : reachBytes = 140737488351232 := rfl
  have h8 : Try.prog.bytesOf 3 = 8 := by kernel_rfl
  rw [hr, h8] at na
  obtain ⟨qa, ca, rfl⟩ := slice_shape ha
  simp only [List.length_map] at ha ⊢
  by_cases h : chkE F = 0
  · exact law_of_ct (sh_cons ha sh_nil) (law_good qa ca F (by omega) h)
  · exact law_of_ct (sh_cons ha sh_nil) (law_bad qa ca F (by omega) h)
end Go.Proofs.Ytjkpijlfdbefiaa.lawHuffMerges
