/-
  huff: slices.symMergeCmpFunc of coins: the walk (printed by gen_huffsort.py).
-/
import Derived.Test.YtppnaofebkpbkaaHuffSortD
namespace Go.Proofs.Ytppnaofebkpbkaa.hsort
open Go.RowKit kit sl Go.Proofs.Ytppnaofebkpbkaa.srt
set_option linter.unusedVariables false
attribute [local irreducible] box own sl old bptr eptr Qt Opr Run Cod Pst Drn
set_option maxRecDepth 100000 in
set_option maxHeartbeats 8000000 in
theorem sym_g2 (sz : Nat) (ih : SymOk sz) (q : Option Addr) (c kb : Nat) (P A B S : List CV) (a N D : Nat) (ha : P.length = a) (hA2 : 2 ≤ A.length) (hB2 : 2 ≤ B.length) (hsz : A.length + B.length ≤ sz + 1) (hN : (P ++ A ++ B ++ S).length = N) (hNb : N ≤ 1000000000) (hw : ∀ x ∈ A ++ B, 0 ≤ x.1 ∧ x.1 ≤ 1000000000000) (hA : Srt A) (hB : Srt B) (hD : (A.length + B.length) / 2 = D) (hside : A.length ≤ D) :
    Ct Try.prog 56 [.slice q N c, .int .i64 (a : Int), .int .i64 ((a + A.length : Nat) : Int), .int .i64 ((a + A.length + B.length : Nat) : Int), cmpV kb] [own (.slice q N c) 44 2 N (flat fC (P ++ A ++ B ++ S)), KB kb]
      fun v H' => v = .tuple #[] ∧ H' = [own (.slice q N c) 44 2 N (flat fC (P ++ sortW (A ++ B) ++ S))] := by
  have hlen : P.length + A.length + B.length + S.length = N := by rw [← hN]; simp only [List.length_append]
  have hmid : ((a : Int) + ((a + A.length + B.length : Nat) : Int)) / 2 = ((a + D : Nat) : Int) := by omega
  unfold cmpV
  (refine spec_enter Try.func56 Try.ntmps56 rfl rfl fun Fr => ?_; dsimp only [List.cons_append, List.nil_append, ini, Nat.reduceAdd])
  refine cod_shapeN pka (by omega) ?_
  rintro g rfl hc
  (repeat' (first | (apply run_qg 1; (focus rfl); (focus exact wt); (focus rfl); (focus (exact qg1))) | (apply run_qg 4; (focus rfl); (focus exact wt); (focus rfl); (focus (first | exact qg4 | exact qs4))) | (apply run_qg 11; (focus rfl); (focus exact wt); (focus rfl); (focus (exact qs11))) | refine cod_seq ?_ | refine cod_region ?_ | refine run_nil ?_ | refine pst_then ?_ | (apply cod_cond_f; (focus rfl)) | refine cod_block ?_ | refine cod_skip ?_))
  rw [hmid]
  (refine cod_loop_rw (σ := Nat × Nat) (fun y => ((a + (D - B.length) ≤ y.1 ∧ y.1 ≤ y.2) ∧ y.2 ≤ a + min D A.length) ∧ (y.1 = a + (D - B.length) ∨ ∀ x z, A[y.1 - a - 1]? = some x → B[D - (y.1 - a)]? = some z → x.1 ≤ z.1) ∧ (y.2 = a + min D A.length ∨ ∀ x z, A[y.2 - a]? = some x → B[D - 1 - (y.2 - a)]? = some z → z.1 < x.1)) (fun y => [(20, .int .i64 (y.1 : Int)), (21, .int .i64 (y.2 : Int))]) (fun y => [own (.slice (some ⟨g, 0, none⟩) N c) 44 2 N (flat fC (P ++ A ++ B ++ S))]) _ (fun y => y.2 - y.1) ((a, a + A.length)) (by exact ⟨⟨⟨by first | omega | (dsimp only; omega) | dsimp only, by first | omega | (dsimp only; omega) | dsimp only⟩, by first | omega | (dsimp only; omega) | dsimp only⟩, .inl (by first | omega | (dsimp only; omega) | dsimp only), .inl (by first | omega | (dsimp only; omega) | dsimp only)⟩) (by exact fsa) (by (first | exact HSub.of_picks_rest (by exact pca))) (fun ⟨s, r⟩ ⟨⟨⟨hs1, hs2⟩, hr⟩, f1, f2⟩ => ?_); dsimp only [List.cons_append, List.nil_append])
  dsimp only at hs1 hs2 hr f1 f2
  rcases Nat.lt_or_ge s r with hlt | hge
  · obtain ⟨w, hw2⟩ : ∃ w, (s + r) / 2 = a + w := ⟨(s + r) / 2 - a, by omega⟩
    have hwu : s ≤ a + w ∧ a + w < r := by omega
    obtain ⟨x, hx⟩ : ∃ x, A[w]? = some x := ⟨_, List.getElem?_eq_getElem (by omega)⟩
    obtain ⟨y, hy⟩ : ∃ y, B[D - 1 - w]? = some y := ⟨_, List.getElem?_eq_getElem (by omega)⟩
    have hxl := at_a (P := P) (A := A) (B := B) (S := S) ha hx
    have hyl := at_b (P := P) (A := A) (B := B) (S := S) (m := a + A.length) (by rw [ha]) hy
    have hh : ((s : Int) + (r : Int)) / 2 = ((a + w : Nat) : Int) := by omega
    have hpc : ((a + D : Nat) : Int) + ((a + A.length : Nat) : Int) - 1 - ((a + w : Nat) : Int) = ((a + A.length + (D - 1 - w) : Nat) : Int) := by omega
    have hwx := hw x (List.mem_append_left _ (List.mem_of_getElem? hx))
    have hwy := hw y (List.mem_append_right _ (List.mem_of_getElem? hy))
    have CM := cmp_any kb y x hwy hwx
    have hi1 : a + w < N := by omega
    have hi2 : a + A.length + (D - 1 - w) < N := by omega
    generalize hZ : P ++ A ++ B ++ S = Z at *
    by_cases hyx : y.1 < x.1
    · have hsub : y.1 - x.1 < 0 := by omega
      (repeat' (first | (apply run_qg 1; (focus rfl); (focus exact wt); (focus rfl); (focus (exact qg1))) | (apply run_qg 4; (focus rfl); (focus exact wt); (focus rfl); (focus (first | exact qg4 | exact qs4))) | (apply run_qg 11; (focus rfl); (focus exact wt); (focus rfl); (focus (exact qs11))) | refine cod_seq ?_ | refine cod_region ?_ | refine run_nil ?_ | refine pst_then ?_ | (apply cod_cond_t; (focus rfl)) | refine cod_block ?_ | refine cod_skip ?_ | (apply cod_drawn_k; (focus kernel_rfl); (focus (simp only [List.length_cons, List.length_nil, Nat.reduceAdd]; rfl))) | (apply drnK_take 1; (focus rfl); (focus rfl); (focus exact wt); (focus (decide +kernel)); (focus exact hsq); (focus rfl); (focus (exact qg1))) | (apply drnK_take 4; (focus rfl); (focus rfl); (focus exact wt); (focus (decide +kernel)); (focus exact hsq); (focus rfl); (focus (first | exact qg4 | exact qs4))) | (apply drnK_done; (focus (decide +kernel))) | (apply drnK_skip; (focus rfl)) | (apply drnK_wrap; (focus rfl))))
      rw [hh]
      skip
      rw [hpc]
      (refine drnK_at 5 ?_; refine drnK_take _ rfl rfl wt (by decide +kernel) hsq rfl (q_index_own rfl rfl rfl pka rfl (by omega)) ?_)
      (repeat' (first | (apply drnK_take 2; (focus rfl); (focus rfl); (focus exact wt); (focus (decide +kernel)); (focus exact hsq); (focus rfl); (focus (first | exact qg2 | exact qs2))) | (apply drnK_take 3; (focus rfl); (focus rfl); (focus exact wt); (focus (decide +kernel)); (focus exact hsq); (focus rfl); (focus (first | exact qg3 | exact qs3))) | (apply drnK_done; (focus (decide +kernel))) | (apply drnK_skip; (focus rfl))))
      (refine drnK_at 11 ?_; (first | refine drnK_ones _ (by rfl) (by rfl) (by kernel_rfl) wt (by rfl) (by exact (opr_callv_ls (first := []) (cap := [bptr kb 0]) rfl rfl rfl CM rfl (Lp.view (KB_x kb) Lp.nil (view_kb pka)))) ?_ | refine drnK_onen _ (by rfl) (by rfl) (by kernel_rfl) wt (by exact (opr_callv_ls (first := []) (cap := [bptr kb 0]) rfl rfl rfl CM rfl (Lp.view (KB_x kb) Lp.nil (view_kb pka)))) ?_); rintro _ _ ⟨rfl, rfl⟩; refine ⟨(by first | exact fun h => absurd h (by decide) | exact fun _ => hsq), ?_⟩; (try dsimp only [List.cons_append, List.nil_append]))
      (repeat' (first | (apply run_qg 1; (focus rfl); (focus exact wt); (focus rfl); (focus (exact qg1))) | refine cod_region ?_ | refine run_nil ?_ | refine pst_then ?_ | (apply cod_cond_f; (focus rfl)) | refine pst_block ?_ | (apply drnK_take 4; (focus rfl); (focus rfl); (focus exact wt); (focus (decide +kernel)); (focus exact hsq); (focus rfl); (focus (first | exact qg4 | exact qs4))) | (apply drnK_end; (focus (decide +kernel)))))
      rw [← hZ]
      refine pst_again ((s, a + w)) ?_ (FSub.of (by (try dsimp only); exact fsa)) (by (try dsimp only); exact hsa) ?_
      · refine ⟨⟨⟨hs1, by dsimp only; omega⟩, by dsimp only; omega⟩, f1, .inr fun x' z' h1 h2 => ?_⟩
        dsimp only at h1 h2
        rw [Nat.add_sub_cancel_left] at h1 h2
        rw [hx] at h1
        rw [hy] at h2
        cases h1
        cases h2
        exact hyx
      · dsimp only; omega
    · have hsub : ¬ y.1 - x.1 < 0 := by omega
      (repeat' (first | (apply run_qg 1; (focus rfl); (focus exact wt); (focus rfl); (focus (exact qg1))) | (apply run_qg 4; (focus rfl); (focus exact wt); (focus rfl); (focus (first | exact qg4 | exact qs4))) | (apply run_qg 11; (focus rfl); (focus exact wt); (focus rfl); (focus (exact qs11))) | refine cod_seq ?_ | refine cod_region ?_ | refine run_nil ?_ | refine pst_then ?_ | (apply cod_cond_t; (focus rfl)) | refine cod_block ?_ | refine cod_skip ?_ | (apply cod_drawn_k; (focus kernel_rfl); (focus (simp only [List.length_cons, List.length_nil, Nat.reduceAdd]; rfl))) | (apply drnK_take 1; (focus rfl); (focus rfl); (focus exact wt); (focus (decide +kernel)); (focus exact hsq); (focus rfl); (focus (exact qg1))) | (apply drnK_take 4; (focus rfl); (focus rfl); (focus exact wt); (focus (decide +kernel)); (focus exact hsq); (focus rfl); (focus (first | exact qg4 | exact qs4))) | (apply drnK_done; (focus (decide +kernel))) | (apply drnK_skip; (focus rfl)) | (apply drnK_wrap; (focus rfl))))
      rw [hh]
      skip
      rw [hpc]
      (refine drnK_at 5 ?_; refine drnK_take _ rfl rfl wt (by decide +kernel) hsq rfl (q_index_own rfl rfl rfl pka rfl (by omega)) ?_)
      (repeat' (first | (apply drnK_take 2; (focus rfl); (focus rfl); (focus exact wt); (focus (decide +kernel)); (focus exact hsq); (focus rfl); (focus (first | exact qg2 | exact qs2))) | (apply drnK_take 3; (focus rfl); (focus rfl); (focus exact wt); (focus (decide +kernel)); (focus exact hsq); (focus rfl); (focus (first | exact qg3 | exact qs3))) | (apply drnK_done; (focus (decide +kernel))) | (apply drnK_skip; (focus rfl))))
      (refine drnK_at 11 ?_; (first | refine drnK_ones _ (by rfl) (by rfl) (by kernel_rfl) wt (by rfl) (by exact (opr_callv_ls (first := []) (cap := [bptr kb 0]) rfl rfl rfl CM rfl (Lp.view (KB_x kb) Lp.nil (view_kb pka)))) ?_ | refine drnK_onen _ (by rfl) (by rfl) (by kernel_rfl) wt (by exact (opr_callv_ls (first := []) (cap := [bptr kb 0]) rfl rfl rfl CM rfl (Lp.view (KB_x kb) Lp.nil (view_kb pka)))) ?_); rintro _ _ ⟨rfl, rfl⟩; refine ⟨(by first | exact fun h => absurd h (by decide) | exact fun _ => hsq), ?_⟩; (try dsimp only [List.cons_append, List.nil_append]))
      (repeat' (first | (apply run_qg 1; (focus rfl); (focus exact wt); (focus rfl); (focus (exact qg1))) | (apply run_qg 4; (focus rfl); (focus exact wt); (focus rfl); (focus (first | exact qg4 | exact qs4))) | refine cod_region ?_ | refine run_nil ?_ | refine pst_then ?_ | (apply cod_cond_t; (focus rfl)) | refine pst_block ?_ | (apply drnK_take 4; (focus rfl); (focus rfl); (focus exact wt); (focus (decide +kernel)); (focus exact hsq); (focus rfl); (focus (first | exact qg4 | exact qs4))) | (apply drnK_end; (focus (decide +kernel)))))
      rw [← hZ, show ((a + w : Nat) : Int) + 1 = ((a + w + 1 : Nat) : Int) by omega]
      refine pst_again ((a + w + 1, r)) ?_ (FSub.of (by (try dsimp only); exact fsa)) (by (try dsimp only); exact hsa) ?_
      · refine ⟨⟨⟨by dsimp only; omega, by dsimp only; omega⟩, hr⟩, .inr fun x' z' h1 h2 => ?_, f2⟩
        dsimp only at h1 h2
        rw [show a + w + 1 - a - 1 = w by omega, hx] at h1
        rw [show D - (a + w + 1 - a) = D - 1 - w by omega, hy] at h2
        cases h1
        cases h2
        omega
      · dsimp only; omega
  · obtain ⟨s, rfl⟩ : ∃ k, s = a + k := ⟨s - a, by omega⟩
    have hrs : r = a + s := by omega
    subst hrs
    rw [Nat.add_sub_cancel_left] at f1 f2
    have hsA : s ≤ A.length := by omega
    have hsD : s ≤ D := by omega
    have hlow := cut_low hA hB hD (by omega) hsA hsD (by rcases f1 with h | h; exact .inl (by omega); exact .inr h)
    have hhigh := cut_high hA hB hsA hsD (by omega) (by rcases f2 with h | h; exact .inl (by omega); exact .inr h)
    obtain ⟨f, rfl⟩ : ∃ f, D = s + f := ⟨D - s, by omega⟩
    rw [Nat.add_sub_cancel_left] at hlow hhigh
    have hfB : f ≤ B.length := by omega
    have hDs : s + f + 1 ≤ A.length + B.length := by omega
    have hDp : 1 ≤ s + f := by omega
    clear f1 f2 hs1 hs2 hr hge hD hmid hside hsD
    (try clear hst)
    have hsum := halves (a1 := A.take s) (a2 := A.drop s) (b1 := B.take f) (b2 := B.drop f) (by rw [List.take_append_drop]; exact hA) (by rw [List.take_append_drop]; exact hB) hlow hhigh
    rw [List.take_append_drop, List.take_append_drop] at hsum
    have eA : A = A.take s ++ A.drop s := (List.take_append_drop _ _).symm
    have eB : B = B.take f ++ B.drop f := (List.take_append_drop _ _).symm
    have l1 : (A.take s).length = s := by rw [List.length_take]; omega
    have l2 : s + (A.drop s).length = A.length := by rw [List.length_drop]; omega
    have l3 : (B.take f).length = f := by rw [List.length_take]; omega
    have l4 : f + (B.drop f).length = B.length := by rw [List.length_drop]; omega
    have w1 : ∀ x ∈ A.take s ++ B.take f, 0 ≤ x.1 ∧ x.1 ≤ 1000000000000 := fun x hx => hw x (by rcases List.mem_append.1 hx with h | h; exact List.mem_append_left _ (List.mem_of_mem_take h); exact List.mem_append_right _ (List.mem_of_mem_take h))
    have w2 : ∀ x ∈ A.drop s ++ B.drop f, 0 ≤ x.1 ∧ x.1 ≤ 1000000000000 := fun x hx => hw x (by rcases List.mem_append.1 hx with h | h; exact List.mem_append_left _ (List.mem_of_mem_drop h); exact List.mem_append_right _ (List.mem_of_mem_drop h))
    have s1 := srt_take hA s
    have s2 := srt_drop hA s
    have s3 := srt_take hB f
    have s4 := srt_drop hB f
    have hfin : P ++ sortW (A ++ B) ++ S = P ++ sortW (A.take s ++ B.take f) ++ sortW (A.drop s ++ B.drop f) ++ S := by rw [← hsum]; simp
    rw [hfin]
    have hLn := sortW_len (A.take s ++ B.take f)
    rw [List.length_append, l1, l3] at hLn
    have hend : ((a + (s + f) : Nat) : Int) + ((a + A.length : Nat) : Int) - ((a + s : Nat) : Int) = ((a + A.length + f : Nat) : Int) := by omega
    have hST : P ++ A ++ B ++ S = P ++ A.take s ++ A.drop s ++ B.take f ++ (B.drop f ++ S) := by
      rw [show P ++ A.take s ++ A.drop s ++ B.take f ++ (B.drop f ++ S) = P ++ (A.take s ++ A.drop s) ++ (B.take f ++ B.drop f) ++ S by simp only [List.append_assoc], List.take_append_drop, List.take_append_drop]
    rw [hST]
    clear hlow hhigh hsum hfin hST eA eB
    generalize A.take s = A1 at *
    generalize A.drop s = A2 at *
    generalize B.take f = B1 at *
    generalize B.drop f = B2 at *
    have ROT : 0 < A2.length → 0 < B1.length → Ct Try.prog 74 _ _ _ := fun g1 g2 => rotate_any (some ⟨g, 0, none⟩) c (cmpV kb) (P ++ A1) A2 B1 (B2 ++ S) (a + s) (a + A.length) (a + A.length + f) N (by rw [List.length_append]; omega) (by omega) (by omega) g1 g2 (by simp only [List.length_append]; omega) hNb
    have LFT : 0 < A1.length → 0 < B1.length → Ct Try.prog 56 _ _ _ := fun g1 g2 => ih (some ⟨g, 0, none⟩) c kb P A1 B1 (A2 ++ B2 ++ S) a (a + s) (a + (s + f)) N ha (by omega) (by omega) g1 g2 (by omega) (by simp only [List.length_append]; omega) hNb w1 s1 s3
    have RGT : 0 < A2.length → 0 < B2.length → Ct Try.prog 56 _ _ _ := fun g1 g2 => ih (some ⟨g, 0, none⟩) c kb (P ++ sortW (A1 ++ B1)) A2 B2 S (a + (s + f)) (a + A.length + f) (a + A.length + B.length) N (by rw [List.length_append]; omega) (by omega) (by omega) g1 g2 (by omega) (by simp only [List.length_append]; omega) hNb w2 s2 s4
    unfold cmpV at ROT LFT RGT
    by_cases hc1 : (0 < A2.length ∧ 0 < B1.length)
    · (repeat' (first | (apply run_qg 1; (focus rfl); (focus exact wt); (focus rfl); (focus (exact qg1))) | (apply run_qg 4; (focus rfl); (focus exact wt); (focus rfl); (focus (first | exact qg4 | exact qs4))) | refine cod_seq ?_ | refine cod_region ?_ | refine run_nil ?_ | refine pst_then ?_ | (apply cod_cond_t; (focus rfl)) | (apply cod_cond_f; (focus rfl)) | refine cod_exit ?_ | refine pst_block_here ?_ | refine pst_then_exit ?_))
      rw [hend]
      refine run_os wt rfl (opr_call_l rfl (ROT hc1.1 hc1.2) rfl lpa) ?_
      rintro _ _ ⟨_, ⟨rfl, rfl⟩, rfl⟩
      dsimp only [List.cons_append, List.nil_append]
      rw [show P ++ A1 ++ B1 ++ A2 ++ (B2 ++ S) = P ++ A1 ++ B1 ++ (A2 ++ B2 ++ S) by simp]
      by_cases hc2 : (0 < A1.length ∧ 0 < B1.length)
      · (repeat' (first | (apply run_qg 1; (focus rfl); (focus exact wt); (focus rfl); (focus (exact qg1))) | (apply run_qg 4; (focus rfl); (focus exact wt); (focus rfl); (focus (first | exact qg4 | exact qs4))) | refine cod_seq ?_ | refine cod_region ?_ | refine run_nil ?_ | refine pst_then ?_ | (apply cod_cond_t; (focus rfl))))
        refine run_os wt rfl (opr_call_l rfl (LFT hc2.1 hc2.2) rfl (Lp.out pka (Lp.view (KB_x kb) Lp.nil (view_kb pka)))) ?_
        rintro _ _ ⟨_, ⟨rfl, rfl⟩, rfl⟩
        dsimp only [List.cons_append, List.nil_append]
        rw [show P ++ sortW (A1 ++ B1) ++ (A2 ++ B2 ++ S) = P ++ sortW (A1 ++ B1) ++ A2 ++ B2 ++ S by simp]
        by_cases hc3 : (0 < A2.length ∧ 0 < B2.length)
        · (repeat' (first | (apply run_qg 1; (focus rfl); (focus exact wt); (focus rfl); (focus (exact qg1))) | (apply run_qg 4; (focus rfl); (focus exact wt); (focus rfl); (focus (first | exact qg4 | exact qs4))) | refine cod_seq ?_ | refine cod_region ?_ | refine run_nil ?_ | refine pst_then ?_ | (apply cod_cond_t; (focus rfl))))
          (try rw [hend])
          refine run_os wt rfl (opr_call_l rfl (RGT hc3.1 hc3.2) rfl (Lp.out pka (Lp.view (KB_x kb) Lp.nil (view_kb pka)))) ?_
          rintro _ _ ⟨_, ⟨rfl, rfl⟩, rfl⟩
          dsimp only [List.cons_append, List.nil_append]
          (repeat' (first | refine run_nil ?_))
          exact pst_fin_end rfl (by exact resa) _ (⟨rfl, rfl⟩) (by exact hsa)
        · have e3 : P ++ sortW (A1 ++ B1) ++ A2 ++ B2 ++ S = P ++ sortW (A1 ++ B1) ++ sortW (A2 ++ B2) ++ S := by
            have e9 : sortW (A2 ++ B2) = A2 ++ B2 := by
              rcases Nat.eq_zero_or_pos A2.length with h | h
              · rw [List.eq_nil_of_length_eq_zero h, List.nil_append, sortW_of s4]
              · rw [List.eq_nil_of_length_eq_zero (by omega : B2.length = 0), List.append_nil, sortW_of s2]
            rw [e9]
            simp only [List.append_assoc]
          rw [e3]
          (repeat' (first | (apply run_qg 1; (focus rfl); (focus exact wt); (focus rfl); (focus (exact qg1))) | (apply run_qg 4; (focus rfl); (focus exact wt); (focus rfl); (focus (first | exact qg4 | exact qs4))) | refine cod_seq ?_ | refine cod_region ?_ | refine run_nil ?_ | refine pst_then ?_ | (apply cod_cond_f; (focus rfl)) | refine cod_skip ?_))
          exact pst_fin_end rfl (by exact resa) _ (⟨rfl, rfl⟩) (by exact hsa)
      · have e2 : P ++ A1 ++ B1 ++ (A2 ++ B2 ++ S) = P ++ sortW (A1 ++ B1) ++ A2 ++ B2 ++ S := by
          have e9 : sortW (A1 ++ B1) = A1 ++ B1 := by
            rcases Nat.eq_zero_or_pos A1.length with h | h
            · rw [List.eq_nil_of_length_eq_zero h, List.nil_append, sortW_of s3]
            · rw [List.eq_nil_of_length_eq_zero (by omega : B1.length = 0), List.append_nil, sortW_of s1]
          rw [e9]
          simp only [List.append_assoc]
        rw [e2]
        by_cases hc3 : (0 < A2.length ∧ 0 < B2.length)
        · (repeat' (first | (apply run_qg 1; (focus rfl); (focus exact wt); (focus rfl); (focus (exact qg1))) | (apply run_qg 4; (focus rfl); (focus exact wt); (focus rfl); (focus (first | exact qg4 | exact qs4))) | refine cod_seq ?_ | refine cod_region ?_ | refine run_nil ?_ | refine pst_then ?_ | (apply cod_cond_t; (focus rfl)) | (apply cod_cond_f; (focus rfl)) | refine cod_skip ?_ | (apply run_offs; (focus rfl); (focus rfl); (focus rfl))))
          (try rw [hend])
          refine run_os wt rfl (opr_call_l rfl (RGT hc3.1 hc3.2) rfl (Lp.out pka (Lp.view (KB_x kb) Lp.nil (view_kb pka)))) ?_
          rintro _ _ ⟨_, ⟨rfl, rfl⟩, rfl⟩
          dsimp only [List.cons_append, List.nil_append]
          (repeat' (first | refine run_nil ?_))
          exact pst_fin_end rfl (by exact resa) _ (⟨rfl, rfl⟩) (by exact hsa)
        · have e3 : P ++ sortW (A1 ++ B1) ++ A2 ++ B2 ++ S = P ++ sortW (A1 ++ B1) ++ sortW (A2 ++ B2) ++ S := by
            have e9 : sortW (A2 ++ B2) = A2 ++ B2 := by
              rcases Nat.eq_zero_or_pos A2.length with h | h
              · rw [List.eq_nil_of_length_eq_zero h, List.nil_append, sortW_of s4]
              · rw [List.eq_nil_of_length_eq_zero (by omega : B2.length = 0), List.append_nil, sortW_of s2]
            rw [e9]
            simp only [List.append_assoc]
          rw [e3]
          (repeat' (first | (apply run_qg 1; (focus rfl); (focus exact wt); (focus rfl); (focus (exact qg1))) | (apply run_qg 4; (focus rfl); (focus exact wt); (focus rfl); (focus (first | exact qg4 | exact qs4))) | refine cod_seq ?_ | refine cod_region ?_ | refine run_nil ?_ | refine pst_then ?_ | (apply cod_cond_f; (focus rfl)) | refine cod_skip ?_ | (apply run_offs; (focus rfl); (focus rfl); (focus rfl))))
          exact pst_fin_end rfl (by exact resa) _ (⟨rfl, rfl⟩) (by exact hsa)
    · have e1 : P ++ A1 ++ A2 ++ B1 ++ (B2 ++ S) = P ++ A1 ++ B1 ++ (A2 ++ B2 ++ S) := by
        rcases Nat.eq_zero_or_pos A2.length with h | h
        · rw [List.eq_nil_of_length_eq_zero h]; simp
        · rw [List.eq_nil_of_length_eq_zero (by omega : B1.length = 0)]; simp
      rw [e1]
      by_cases hc2 : (0 < A1.length ∧ 0 < B1.length)
      · (repeat' (first | (apply run_qg 1; (focus rfl); (focus exact wt); (focus rfl); (focus (exact qg1))) | (apply run_qg 4; (focus rfl); (focus exact wt); (focus rfl); (focus (first | exact qg4 | exact qs4))) | refine cod_seq ?_ | refine cod_region ?_ | refine run_nil ?_ | refine pst_then ?_ | (apply cod_cond_t; (focus rfl)) | (apply cod_cond_f; (focus rfl)) | refine cod_exit ?_ | refine cod_skip ?_ | refine pst_block_here ?_ | refine pst_then_exit ?_ | (apply run_offs; (focus rfl); (focus rfl); (focus rfl))))
        refine run_os wt rfl (opr_call_l rfl (LFT hc2.1 hc2.2) rfl (Lp.out pka (Lp.view (KB_x kb) Lp.nil (view_kb pka)))) ?_
        rintro _ _ ⟨_, ⟨rfl, rfl⟩, rfl⟩
        dsimp only [List.cons_append, List.nil_append]
        rw [show P ++ sortW (A1 ++ B1) ++ (A2 ++ B2 ++ S) = P ++ sortW (A1 ++ B1) ++ A2 ++ B2 ++ S by simp]
        by_cases hc3 : (0 < A2.length ∧ 0 < B2.length)
        · (repeat' (first | (apply run_qg 1; (focus rfl); (focus exact wt); (focus rfl); (focus (exact qg1))) | (apply run_qg 4; (focus rfl); (focus exact wt); (focus rfl); (focus (first | exact qg4 | exact qs4))) | refine cod_seq ?_ | refine cod_region ?_ | refine run_nil ?_ | refine pst_then ?_ | (apply cod_cond_t; (focus rfl))))
          (try rw [hend])
          refine run_os wt rfl (opr_call_l rfl (RGT hc3.1 hc3.2) rfl (Lp.out pka (Lp.view (KB_x kb) Lp.nil (view_kb pka)))) ?_
          rintro _ _ ⟨_, ⟨rfl, rfl⟩, rfl⟩
          dsimp only [List.cons_append, List.nil_append]
          (repeat' (first | refine run_nil ?_))
          exact pst_fin_end rfl (by exact resa) _ (⟨rfl, rfl⟩) (by exact hsa)
        · have e3 : P ++ sortW (A1 ++ B1) ++ A2 ++ B2 ++ S = P ++ sortW (A1 ++ B1) ++ sortW (A2 ++ B2) ++ S := by
            have e9 : sortW (A2 ++ B2) = A2 ++ B2 := by
              rcases Nat.eq_zero_or_pos A2.length with h | h
              · rw [List.eq_nil_of_length_eq_zero h, List.nil_append, sortW_of s4]
              · rw [List.eq_nil_of_length_eq_zero (by omega : B2.length = 0), List.append_nil, sortW_of s2]
            rw [e9]
            simp only [List.append_assoc]
          rw [e3]
          (repeat' (first | (apply run_qg 1; (focus rfl); (focus exact wt); (focus rfl); (focus (exact qg1))) | (apply run_qg 4; (focus rfl); (focus exact wt); (focus rfl); (focus (first | exact qg4 | exact qs4))) | refine cod_seq ?_ | refine cod_region ?_ | refine run_nil ?_ | refine pst_then ?_ | (apply cod_cond_f; (focus rfl)) | refine cod_skip ?_ | (apply run_offs; (focus rfl); (focus rfl); (focus rfl))))
          exact pst_fin_end rfl (by exact resa) _ (⟨rfl, rfl⟩) (by exact hsa)
      · have e2 : P ++ A1 ++ B1 ++ (A2 ++ B2 ++ S) = P ++ sortW (A1 ++ B1) ++ A2 ++ B2 ++ S := by
          have e9 : sortW (A1 ++ B1) = A1 ++ B1 := by
            rcases Nat.eq_zero_or_pos A1.length with h | h
            · rw [List.eq_nil_of_length_eq_zero h, List.nil_append, sortW_of s3]
            · rw [List.eq_nil_of_length_eq_zero (by omega : B1.length = 0), List.append_nil, sortW_of s1]
          rw [e9]
          simp only [List.append_assoc]
        rw [e2]
        by_cases hc3 : (0 < A2.length ∧ 0 < B2.length)
        · (repeat' (first | (apply run_qg 1; (focus rfl); (focus exact wt); (focus rfl); (focus (exact qg1))) | (apply run_qg 4; (focus rfl); (focus exact wt); (focus rfl); (focus (first | exact qg4 | exact qs4))) | refine cod_seq ?_ | refine cod_region ?_ | refine run_nil ?_ | refine pst_then ?_ | (apply cod_cond_t; (focus rfl)) | (apply cod_cond_f; (focus rfl)) | refine cod_exit ?_ | refine cod_skip ?_ | refine pst_block_here ?_ | refine pst_then_exit ?_))
          (try rw [hend])
          refine run_os wt rfl (opr_call_l rfl (RGT hc3.1 hc3.2) rfl (Lp.out pka (Lp.view (KB_x kb) Lp.nil (view_kb pka)))) ?_
          rintro _ _ ⟨_, ⟨rfl, rfl⟩, rfl⟩
          dsimp only [List.cons_append, List.nil_append]
          (repeat' (first | refine run_nil ?_))
          exact pst_fin_end rfl (by exact resa) _ (⟨rfl, rfl⟩) (by exact hsa)
        · have e3 : P ++ sortW (A1 ++ B1) ++ A2 ++ B2 ++ S = P ++ sortW (A1 ++ B1) ++ sortW (A2 ++ B2) ++ S := by
            have e9 : sortW (A2 ++ B2) = A2 ++ B2 := by
              rcases Nat.eq_zero_or_pos A2.length with h | h
              · rw [List.eq_nil_of_length_eq_zero h, List.nil_append, sortW_of s4]
              · rw [List.eq_nil_of_length_eq_zero (by omega : B2.length = 0), List.append_nil, sortW_of s2]
            rw [e9]
            simp only [List.append_assoc]
          rw [e3]
          (repeat' (first | (apply run_qg 1; (focus rfl); (focus exact wt); (focus rfl); (focus (exact qg1))) | (apply run_qg 4; (focus rfl); (focus exact wt); (focus rfl); (focus (first | exact qg4 | exact qs4))) | refine cod_seq ?_ | refine cod_region ?_ | refine run_nil ?_ | refine pst_then ?_ | (apply cod_cond_f; (focus rfl)) | refine cod_exit ?_ | refine cod_skip ?_ | refine pst_block_here ?_ | refine pst_then_exit ?_ | (apply run_offs; (focus rfl); (focus rfl); (focus rfl))))
          exact pst_fin_end rfl (by exact resa) _ (⟨rfl, rfl⟩) (by exact hsa)
theorem sym_any : ∀ sz, SymOk sz := by
  intro sz
  induction sz with
  | zero => intro q c kb P A B S a m e N ha hm he hA0 hB0 hsz; omega
  | succ sz ih =>
    intro q c kb P A B S a m e N ha hm he hA0 hB0 hsz hN hNb hw hA hB
    have hlen : P.length + A.length + B.length + S.length = N := by rw [← hN]; simp only [List.length_append]
    subst hm he
    by_cases h1 : A.length = 1
    · obtain ⟨x, rfl⟩ : ∃ x, A = [x] := List.length_eq_one_iff.1 h1
      exact sym_left q c kb P B S x a (a + [x].length + B.length) N ha rfl (by simp only [List.length_singleton] at hlen; omega) hNb (hw x (by simp)) (fun y hy => hw y (List.mem_append_right _ hy)) hB
    · by_cases h2 : B.length = 1
      · obtain ⟨x, rfl⟩ : ∃ x, B = [x] := List.length_eq_one_iff.1 h2
        exact sym_right q c kb P A S x a (a + A.length) N ha rfl (by omega) (by simp only [List.length_singleton] at hlen; omega) hNb (hw x (by simp)) (fun y hy => hw y (List.mem_append_left _ hy)) hA
      · by_cases hside : (A.length + B.length) / 2 < A.length
        · exact sym_g1 sz ih q c kb P A B S a N _ ha (by omega) (by omega) hsz hN hNb hw hA hB rfl hside
        · exact sym_g2 sz ih q c kb P A B S a N _ ha (by omega) (by omega) hsz hN hNb hw hA hB rfl (by omega)
end Go.Proofs.Ytppnaofebkpbkaa.hsort
