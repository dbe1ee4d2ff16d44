/-
  huff: slices.symMergeCmpFunc of coins: the walk (printed by gen_huffsort.py).
-/
import Derived.Test.YtppnaofebkpbkaaHuffSortB
namespace Go.Proofs.Ytppnaofebkpbkaa.hsort
open Go.RowKit kit sl Go.Proofs.Ytppnaofebkpbkaa.srt
set_option linter.unusedVariables false
theorem at_a {α : Type} {P A B S : List α} {a t : Nat} {x : α} (ha : P.length = a) (h : A[t]? = some x) : (P ++ A ++ B ++ S)[a + t]? = some x := by
  have hl := (List.getElem?_eq_some_iff.1 h).1
  rw [List.append_assoc, List.append_assoc, List.getElem?_append_right (by omega), List.getElem?_append_left (by omega), ← h]
  congr 1
  omega
theorem at_b {α : Type} {P A B S : List α} {m t : Nat} {x : α} (hm : P.length + A.length = m) (h : B[t]? = some x) : (P ++ A ++ B ++ S)[m + t]? = some x := by
  have hl := (List.getElem?_eq_some_iff.1 h).1
  rw [List.append_assoc, List.getElem?_append_right (by rw [List.length_append]; omega), List.getElem?_append_left (by rw [List.length_append]; omega), ← h]
  congr 1
  rw [List.length_append]
  omega
theorem srt_le {l : List CV} (h : Srt l) {i j : Nat} {x y : CV} (hij : i ≤ j) (hx : l[i]? = some x) (hy : l[j]? = some y) : x.1 ≤ y.1 := by
  obtain ⟨h1, h2⟩ := List.getElem?_eq_some_iff.1 hx
  obtain ⟨h3, h4⟩ := List.getElem?_eq_some_iff.1 hy
  by_cases e : i = j
  · subst e
    rw [hx] at hy
    cases hy
    exact Int.le_refl _
  · have := List.pairwise_iff_getElem.1 h i j h1 h3 (by omega)
    rw [h2, h4] at this
    exact this
theorem mem_take {α : Type} {l : List α} {k : Nat} {x : α} (h : x ∈ l.take k) : ∃ i, i < k ∧ l[i]? = some x := by
  obtain ⟨i, hi⟩ := List.mem_iff_getElem?.1 h
  rw [List.getElem?_take] at hi
  split at hi
  · exact ⟨i, by assumption, hi⟩
  · cases hi
theorem mem_drop {α : Type} {l : List α} {k : Nat} {x : α} (h : x ∈ l.drop k) : ∃ i, k ≤ i ∧ l[i]? = some x := by
  obtain ⟨i, hi⟩ := List.mem_iff_getElem?.1 h
  rw [List.getElem?_drop] at hi
  exact ⟨k + i, by omega, hi⟩
/-- one coin, put among others that are sorted: all steps of it -/
def mv (P B S : List CV) (x : CV) (t : Nat) : List CV := P ++ B.take t ++ x :: (B.drop t ++ S)
theorem mv_swap (P B S : List CV) (x : CV) {t a : Nat} {b : CV} (ha : P.length = a) (hb : B[t]? = some b) :
    (mv P B S x t)[a + t]? = some x ∧ (mv P B S x t)[a + (t + 1)]? = some b ∧ ((mv P B S x t).set (a + t) b)[a + (t + 1)]? = some b ∧ ((mv P B S x t).set (a + t) b).set (a + (t + 1)) x = mv P B S x (t + 1) ∧
    (mv P B S x (t + 1))[a + t]? = some b ∧ (mv P B S x (t + 1))[a + (t + 1)]? = some x ∧ ((mv P B S x (t + 1)).set (a + (t + 1)) b)[a + t]? = some b ∧ ((mv P B S x (t + 1)).set (a + (t + 1)) b).set (a + t) x = mv P B S x t := by
  obtain ⟨h1, h2⟩ := List.getElem?_eq_some_iff.1 hb
  have ed : B.drop t = b :: B.drop (t + 1) := by rw [List.drop_eq_getElem_cons h1, h2]
  have et : B.take (t + 1) = B.take t ++ [b] := by rw [List.take_add_one, hb]; rfl
  have e1 : mv P B S x t = (P ++ B.take t) ++ x :: ([] ++ b :: (B.drop (t + 1) ++ S)) := by unfold mv; rw [ed]; simp
  have e2 : mv P B S x (t + 1) = (P ++ B.take t) ++ b :: ([] ++ x :: (B.drop (t + 1) ++ S)) := by unfold mv; rw [et]; simp
  have hl : (P ++ B.take t).length = a + t := by rw [List.length_append, List.length_take]; omega
  have g1 := swap_two (P ++ B.take t) [] (B.drop (t + 1) ++ S) x b (i := a + t) (j := a + (t + 1)) hl rfl
  have g2 := swap_two (P ++ B.take t) [] (B.drop (t + 1) ++ S) b x (i := a + t) (j := a + (t + 1)) hl rfl
  rw [← e1, ← e2] at g1 g2
  exact ⟨g1.1, g1.2.1, g1.2.2.1, g1.2.2.2.1, g2.1, g2.2.1, g2.2.2.2.2.1, g2.2.2.2.2.2⟩
theorem mv_len (P B S : List CV) (x : CV) (t : Nat) : (mv P B S x t).length = P.length + B.length + 1 + S.length := by
  unfold mv
  simp only [List.length_append, List.length_cons, List.length_take, List.length_drop]
  omega
attribute [local irreducible] box own sl old bptr eptr Qt Opr Run Cod Pst Drn
set_option maxRecDepth 100000 in
set_option maxHeartbeats 8000000 in
theorem sym_left (q : Option Addr) (c kb : Nat) (P B S : List CV) (x : CV) (a e N : Nat) (ha : P.length = a) (he : a + 1 + B.length = e) (hN : P.length + B.length + 1 + S.length = N) (hNb : N ≤ 1000000000) (hwx : 0 ≤ x.1 ∧ x.1 ≤ 1000000000000) (hw : ∀ y ∈ B, 0 ≤ y.1 ∧ y.1 ≤ 1000000000000) (hs : Srt B) :
    Ct Try.prog 56 [.slice q N c, .int .i64 (a : Int), .int .i64 ((a + 1 : Nat) : Int), .int .i64 (e : Int), cmpV kb] [own (.slice q N c) 44 2 N (flat fC (P ++ [x] ++ B ++ S)), KB kb]
      fun v H' => v = .tuple #[] ∧ H' = [own (.slice q N c) 44 2 N (flat fC (P ++ sortW (x :: B) ++ S))] := by
  subst he
  unfold cmpV
  rw [show P ++ [x] ++ B ++ S = mv P B S x 0 by simp [mv]]
  have hZl := mv_len P B S x
  have hx0 : (mv P B S x 0)[a + 0]? = some x := by unfold mv; rw [List.take_zero, List.append_nil]; exact get_mid _ _ _ ha
  rw [Nat.add_zero] at hx0
  have hBt : ∀ (t : Nat) (y : CV), B[t]? = some y → (mv P B S x 0)[a + 1 + t]? = some y := fun t y hy => by
    rw [show mv P B S x 0 = P ++ [x] ++ B ++ S by simp [mv]]
    exact at_b (by rw [ha]; rfl) hy
  (refine spec_enter Try.func56 Try.ntmps56 rfl rfl fun Fr => ?_; dsimp only [List.cons_append, List.nil_append, ini, Nat.reduceAdd])
  refine cod_shapeN pka (by omega) ?_
  rintro g rfl hc
  (repeat' (first | (apply run_qg 1; (focus rfl); (focus exact wt); (focus rfl); (focus (exact qg1))) | (apply run_qg 4; (focus rfl); (focus exact wt); (focus rfl); (focus (first | exact qg4 | exact qs4))) | refine cod_seq ?_ | refine cod_region ?_ | refine run_nil ?_ | refine pst_then ?_ | (apply cod_cond_t; (focus rfl)) | refine cod_block ?_))
  (refine cod_loop_rw (σ := Nat × Nat) (fun y => (y.1 ≤ y.2 ∧ y.2 ≤ B.length) ∧ (∀ t z, B[t]? = some z → t < y.1 → z.1 < x.1) ∧ ∀ t z, B[t]? = some z → y.2 ≤ t → x.1 ≤ z.1) (fun y => [(10, .int .i64 ((a + 1 + y.1 : Nat) : Int)), (11, .int .i64 ((a + 1 + y.2 : Nat) : Int))]) (fun y => [own (.slice (some ⟨g, 0, none⟩) N c) 44 2 N (flat fC (mv P B S x 0))]) _ (fun y => y.2 - y.1) ((0, B.length)) (by exact ⟨⟨Nat.zero_le _, Nat.le_refl _⟩, fun t z _ h => absurd h (Nat.not_lt_zero _), fun t z h h2 => by have := (List.getElem?_eq_some_iff.1 h).1; dsimp only at h2; omega⟩) (by exact fsa) (by (first | exact HSub.of_picks_rest (by exact pca))) (fun ⟨u, v⟩ ⟨⟨huv, hvl⟩, hu, hv⟩ => ?_); dsimp only [List.cons_append, List.nil_append])
  dsimp only at huv hvl hu hv
  rcases Nat.lt_or_ge u v with hlt | hge
  · obtain ⟨w, hw2⟩ : ∃ w, (u + v) / 2 = w := ⟨_, rfl⟩
    have hwu : u ≤ w ∧ w < v := by omega
    obtain ⟨y, hy⟩ : ∃ y, B[w]? = some y := ⟨_, List.getElem?_eq_getElem (by omega)⟩
    have hyl := hBt w y hy
    have hh : (((a + 1 + u : Nat) : Int) + ((a + 1 + v : Nat) : Int)) / 2 = ((a + 1 + w : Nat) : Int) := by omega
    have hwy := hw y (List.mem_of_getElem? hy)
    have CM := cmp_any kb y x hwy hwx
    have hi1 : a + 1 + w < N := by omega
    have hi2 : a < N := by omega
    generalize hZ : mv P B S x 0 = Z at *
    by_cases hyx : y.1 < x.1
    · have hsub : y.1 - x.1 < 0 := by omega
      (repeat' (first | (apply run_qg 1; (focus rfl); (focus exact wt); (focus rfl); (focus (exact qg1))) | (apply run_qg 4; (focus rfl); (focus exact wt); (focus rfl); (focus (first | exact qg4 | exact qs4))) | (apply run_qg 11; (focus rfl); (focus exact wt); (focus rfl); (focus (exact qs11))) | refine cod_seq ?_ | refine cod_region ?_ | refine run_nil ?_ | refine pst_then ?_ | (apply cod_cond_t; (focus rfl)) | refine cod_block ?_ | refine cod_skip ?_ | (apply cod_drawn_k; (focus kernel_rfl); (focus (simp only [List.length_cons, List.length_nil, Nat.reduceAdd]; rfl))) | (apply drnK_take 1; (focus rfl); (focus rfl); (focus exact wt); (focus (decide +kernel)); (focus exact hsq); (focus rfl); (focus (exact qg1))) | (apply drnK_take 2; (focus rfl); (focus rfl); (focus exact wt); (focus (decide +kernel)); (focus exact hsq); (focus rfl); (focus (first | exact qg2 | exact qs2))) | (apply drnK_take 3; (focus rfl); (focus rfl); (focus exact wt); (focus (decide +kernel)); (focus exact hsq); (focus rfl); (focus (first | exact qg3 | exact qs3))) | (apply drnK_done; (focus (decide +kernel))) | (apply drnK_skip; (focus rfl)) | (apply drnK_wrap; (focus rfl))))
      rw [hh]
      (refine drnK_at 3 ?_; refine drnK_take _ rfl rfl wt (by decide +kernel) hsq rfl (q_index_own rfl rfl rfl pka rfl (by omega)) ?_)
      (repeat' (first | (apply drnK_take 2; (focus rfl); (focus rfl); (focus exact wt); (focus (decide +kernel)); (focus exact hsq); (focus rfl); (focus (first | exact qg2 | exact qs2))) | (apply drnK_done; (focus (decide +kernel))) | (apply drnK_skip; (focus rfl))))
      (refine drnK_at 9 ?_; (first | refine drnK_ones _ (by rfl) (by rfl) (by kernel_rfl) wt (by rfl) (by exact (opr_callv_ls (first := []) (cap := [bptr kb 0]) rfl rfl rfl CM rfl (Lp.view (KB_x kb) Lp.nil (view_kb pka)))) ?_ | refine drnK_onen _ (by rfl) (by rfl) (by kernel_rfl) wt (by exact (opr_callv_ls (first := []) (cap := [bptr kb 0]) rfl rfl rfl CM rfl (Lp.view (KB_x kb) Lp.nil (view_kb pka)))) ?_); rintro _ _ ⟨rfl, rfl⟩; refine ⟨(by first | exact fun h => absurd h (by decide) | exact fun _ => hsq), ?_⟩; (try dsimp only [List.cons_append, List.nil_append]))
      (repeat' (first | (apply run_qg 1; (focus rfl); (focus exact wt); (focus rfl); (focus (exact qg1))) | (apply run_qg 4; (focus rfl); (focus exact wt); (focus rfl); (focus (first | exact qg4 | exact qs4))) | refine cod_region ?_ | refine run_nil ?_ | refine pst_then ?_ | (apply cod_cond_t; (focus rfl)) | refine pst_block ?_ | (apply drnK_take 4; (focus rfl); (focus rfl); (focus exact wt); (focus (decide +kernel)); (focus exact hsq); (focus rfl); (focus (first | exact qg4 | exact qs4))) | (apply drnK_end; (focus (decide +kernel)))))
      rw [← hZ]
      refine pst_again ((w + 1, v)) ?_ (FSub.of (by (try dsimp only); exact fsa)) (by (try dsimp only); exact hsa) ?_
      · refine ⟨⟨by dsimp only; omega, hvl⟩, fun t z hz ht => ?_, hv⟩
        have := srt_le hs (by dsimp only at ht; omega : t ≤ w) hz hy
        omega
      · dsimp only; omega
    · have hsub : ¬ y.1 - x.1 < 0 := by omega
      (repeat' (first | (apply run_qg 1; (focus rfl); (focus exact wt); (focus rfl); (focus (exact qg1))) | (apply run_qg 4; (focus rfl); (focus exact wt); (focus rfl); (focus (first | exact qg4 | exact qs4))) | (apply run_qg 11; (focus rfl); (focus exact wt); (focus rfl); (focus (exact qs11))) | refine cod_seq ?_ | refine cod_region ?_ | refine run_nil ?_ | refine pst_then ?_ | (apply cod_cond_t; (focus rfl)) | refine cod_block ?_ | refine cod_skip ?_ | (apply cod_drawn_k; (focus kernel_rfl); (focus (simp only [List.length_cons, List.length_nil, Nat.reduceAdd]; rfl))) | (apply drnK_take 1; (focus rfl); (focus rfl); (focus exact wt); (focus (decide +kernel)); (focus exact hsq); (focus rfl); (focus (exact qg1))) | (apply drnK_take 2; (focus rfl); (focus rfl); (focus exact wt); (focus (decide +kernel)); (focus exact hsq); (focus rfl); (focus (first | exact qg2 | exact qs2))) | (apply drnK_take 3; (focus rfl); (focus rfl); (focus exact wt); (focus (decide +kernel)); (focus exact hsq); (focus rfl); (focus (first | exact qg3 | exact qs3))) | (apply drnK_done; (focus (decide +kernel))) | (apply drnK_skip; (focus rfl)) | (apply drnK_wrap; (focus rfl))))
      rw [hh]
      (refine drnK_at 3 ?_; refine drnK_take _ rfl rfl wt (by decide +kernel) hsq rfl (q_index_own rfl rfl rfl pka rfl (by omega)) ?_)
      (repeat' (first | (apply drnK_take 2; (focus rfl); (focus rfl); (focus exact wt); (focus (decide +kernel)); (focus exact hsq); (focus rfl); (focus (first | exact qg2 | exact qs2))) | (apply drnK_done; (focus (decide +kernel))) | (apply drnK_skip; (focus rfl))))
      (refine drnK_at 9 ?_; (first | refine drnK_ones _ (by rfl) (by rfl) (by kernel_rfl) wt (by rfl) (by exact (opr_callv_ls (first := []) (cap := [bptr kb 0]) rfl rfl rfl CM rfl (Lp.view (KB_x kb) Lp.nil (view_kb pka)))) ?_ | refine drnK_onen _ (by rfl) (by rfl) (by kernel_rfl) wt (by exact (opr_callv_ls (first := []) (cap := [bptr kb 0]) rfl rfl rfl CM rfl (Lp.view (KB_x kb) Lp.nil (view_kb pka)))) ?_); rintro _ _ ⟨rfl, rfl⟩; refine ⟨(by first | exact fun h => absurd h (by decide) | exact fun _ => hsq), ?_⟩; (try dsimp only [List.cons_append, List.nil_append]))
      (repeat' (first | (apply run_qg 1; (focus rfl); (focus exact wt); (focus rfl); (focus (exact qg1))) | refine cod_region ?_ | refine run_nil ?_ | refine pst_then ?_ | (apply cod_cond_f; (focus rfl)) | refine pst_block ?_ | (apply drnK_take 4; (focus rfl); (focus rfl); (focus exact wt); (focus (decide +kernel)); (focus exact hsq); (focus rfl); (focus (first | exact qg4 | exact qs4))) | (apply drnK_end; (focus (decide +kernel)))))
      rw [← hZ]
      refine pst_again ((u, w)) ?_ (FSub.of (by (try dsimp only); exact fsa)) (by (try dsimp only); exact hsa) ?_
      · refine ⟨⟨by dsimp only; omega, by dsimp only; omega⟩, hu, fun t z hz ht => ?_⟩
        have := srt_le hs (by dsimp only at ht; omega : w ≤ t) hy hz
        omega
      · dsimp only; omega
  · have huv2 : v = u := by omega
    subst huv2
    have hfin : P ++ sortW (x :: B) ++ S = mv P B S x v := by
      have h1 := put_left (a := B.take v) (b := B.drop v) (x := x) (by rw [List.take_append_drop]; exact hs) (fun z hz => by
        obtain ⟨i, hi, h2⟩ := mem_take hz
        exact hu i z h2 hi) (fun z hz => by
        obtain ⟨i, hi, h2⟩ := mem_drop hz
        exact hv i z h2 hi)
      rw [List.take_append_drop] at h1
      rw [← h1]
      simp [mv]
    rw [hfin]
    have hstep := fun (t : Nat) (b : CV) => mv_swap P B S x (t := t) (a := a) (b := b) ha
    have hdec : ((a + 1 + v : Nat) : Int) - 1 = ((a + v : Nat) : Int) := by omega
    clear hu hv hfin hBt hx0
    (repeat' (first | (apply run_qg 1; (focus rfl); (focus exact wt); (focus rfl); (focus (exact qg1))) | (apply run_qg 4; (focus rfl); (focus exact wt); (focus rfl); (focus (first | exact qg4 | exact qs4))) | refine cod_seq ?_ | refine cod_region ?_ | refine run_nil ?_ | refine pst_then ?_ | (apply cod_cond_f; (focus rfl)) | refine cod_block ?_ | refine cod_exit ?_ | refine pst_block_here ?_ | refine pst_then_exit ?_))
    (refine cod_loop_rw (σ := Nat) (fun t => t ≤ v) (fun t => [(13, .int .i64 ((a + t : Nat) : Int))]) (fun t => [own (.slice (some ⟨g, 0, none⟩) N c) 44 2 N (flat fC (mv P B S x t))]) _ (fun t => v - t) (0) (by exact Nat.zero_le _) (by exact fsa) (by (first | exact HSub.of_picks_rest (by exact pca))) (fun t ht => ?_); dsimp only [List.cons_append, List.nil_append])
    rcases Nat.lt_or_ge t v with htl | htg
    · obtain ⟨b, hb⟩ : ∃ b, B[t]? = some b := ⟨_, List.getElem?_eq_getElem (by omega)⟩
      obtain ⟨z1, z2, z3, z4, _⟩ := hstep t b hb
      have hJ : ((a + t : Nat) : Int) + 1 = ((a + (t + 1) : Nat) : Int) := by omega
      have hA : a + t < N := by omega
      have hB : a + (t + 1) < N := by omega
      have hlZ := hZl t
      rw [hN] at hlZ
      generalize mv P B S x t = Z at *
      (repeat' (first | (apply run_qg 1; (focus rfl); (focus exact wt); (focus rfl); (focus (exact qg1))) | (apply run_qg 4; (focus rfl); (focus exact wt); (focus rfl); (focus (first | exact qg4 | exact qs4))) | refine cod_seq ?_ | refine cod_region ?_ | refine run_nil ?_ | refine pst_then ?_ | (apply cod_cond_t; (focus rfl)) | refine cod_block ?_ | refine cod_skip ?_))
      refine cod_pre (by kernel_rfl) (by simp only [List.length_cons, List.length_nil, Nat.reduceAdd]; rfl) ?_
      refine pre_take 0 rfl wt (by decide +kernel) rfl (q_move rfl rfl) ?_
      refine pre_take 1 rfl wt (by decide +kernel) rfl (q_move rfl rfl) ?_
      refine pre_take 2 rfl wt (by decide +kernel) rfl (q_move rfl rfl) ?_
      refine pre_take 3 rfl wt (by decide +kernel) rfl (q_move rfl rfl) ?_
      refine pre_take 4 rfl wt (by decide +kernel) rfl (q_add rfl rfl rfl (by omega)) ?_
      refine pre_take 5 rfl wt (by decide +kernel) rfl (q_move rfl rfl) ?_
      refine pre_take 6 rfl wt (by decide +kernel) rfl (q_move rfl rfl) ?_
      refine pre_take 7 rfl wt (by decide +kernel) rfl (q_add rfl rfl rfl (by omega)) ?_
      rw [hJ]
      refine pre_take 8 rfl wt (by decide +kernel) rfl (q_index_at (i := a + (t + 1)) rfl rfl rfl hB) ?_
      refine pre_take 10 rfl wt (by decide +kernel) rfl (q_move rfl rfl) ?_
      refine pre_take 11 rfl wt (by decide +kernel) rfl (q_move rfl rfl) ?_
      refine pre_take 12 rfl wt (by decide +kernel) rfl (q_index_at (i := a + t) rfl rfl rfl hA) ?_
      refine pre_drn (Hq := [own (.slice (some ⟨g, 0, none⟩) N c) 44 2 N (flat fC Z)]) (nk := [15, 16, 17]) (r := 1) (i := 0) ?_
      (repeat' (first | (apply drnK_take 2; (focus rfl); (focus rfl); (focus exact wt); (focus (decide +kernel)); (focus exact hsq); (focus rfl); (focus (first | exact qg2 | exact qs2))) | (apply drnK_take 3; (focus rfl); (focus rfl); (focus exact wt); (focus (decide +kernel)); (focus exact hsq); (focus rfl); (focus (first | exact qg3 | exact qs3))) | (apply drnK_done; (focus (decide +kernel))) | (apply drnK_skip; (focus rfl)) | (apply drnK_wrap; (focus rfl))))
      (refine drnK_at 15 ?_; (first | refine drnK_ones _ (by rfl) (by rfl) (by kernel_rfl) wt (by rfl) (by exact (opr_store_ownm (f := fC) (q' := b) rfl rfl rfl rfl (by exact pka) rfl (by omega) (by intro _; rfl) (by assumption) rfl rfl (by rfl))) ?_ | refine drnK_onen _ (by rfl) (by rfl) (by kernel_rfl) wt (by exact (opr_store_ownm (f := fC) (q' := b) rfl rfl rfl rfl (by exact pka) rfl (by omega) (by intro _; rfl) (by assumption) rfl rfl (by rfl))) ?_); rintro _ _ ⟨rfl, rfl⟩; refine ⟨(by first | exact fun h => absurd h (by decide) | exact fun _ => hsq), ?_⟩; (try dsimp only [List.cons_append, List.nil_append]))
      (refine drnK_at 16 ?_; (first | refine drnK_ones _ (by rfl) (by rfl) (by kernel_rfl) wt (by rfl) (by exact (opr_of_qt (q_index_own (i := a + (t + 1)) rfl rfl rfl pka (by omega) (by omega)))) ?_ | refine drnK_onen _ (by rfl) (by rfl) (by kernel_rfl) wt (by exact (opr_of_qt (q_index_own (i := a + (t + 1)) rfl rfl rfl pka (by omega) (by omega)))) ?_); rintro _ _ ⟨rfl, rfl⟩; refine ⟨(by first | exact fun h => absurd h (by decide) | exact fun _ => hsq), ?_⟩; (try dsimp only [List.cons_append, List.nil_append]))
      (refine drnK_at 17 ?_; (first | refine drnK_ones _ (by rfl) (by rfl) (by kernel_rfl) wt (by rfl) (by exact (opr_store_ownm (f := fC) (q' := x) rfl rfl rfl rfl (by exact pka) rfl (by omega) (by intro _; rfl) (by assumption) rfl rfl (by rfl))) ?_ | refine drnK_onen _ (by rfl) (by rfl) (by kernel_rfl) wt (by exact (opr_store_ownm (f := fC) (q' := x) rfl rfl rfl rfl (by exact pka) rfl (by omega) (by intro _; rfl) (by assumption) rfl rfl (by rfl))) ?_); rintro _ _ ⟨rfl, rfl⟩; refine ⟨(by first | exact fun h => absurd h (by decide) | exact fun _ => hsq), ?_⟩; (try dsimp only [List.cons_append, List.nil_append]))
      rw [z4]
      (repeat' (first | (apply run_qg 1; (focus rfl); (focus exact wt); (focus rfl); (focus (exact qg1))) | (apply run_qg 4; (focus rfl); (focus exact wt); (focus rfl); (focus (first | exact qg4 | exact qs4))) | refine cod_region ?_ | refine run_nil ?_ | refine pst_then ?_ | refine pst_block ?_ | (apply drnK_end; (focus (decide +kernel)))))
      rw [hJ]
      refine pst_again (t + 1) ?_ (FSub.of (by (try dsimp only); exact fsa)) (by (try dsimp only); exact hsa) ?_
      · exact htl
      · omega
    · have : t = v := by omega
      subst this
      (repeat' (first | (apply run_qg 1; (focus rfl); (focus exact wt); (focus rfl); (focus (exact qg1))) | (apply run_qg 4; (focus rfl); (focus exact wt); (focus rfl); (focus (first | exact qg4 | exact qs4))) | refine cod_seq ?_ | refine cod_region ?_ | refine run_nil ?_ | refine pst_then ?_ | (apply cod_cond_f; (focus rfl)) | refine cod_exit ?_ | refine cod_ret ?_ | refine pst_block_here ?_ | refine pst_then_exit ?_ | refine pst_then_ret ?_))
      exact pst_fin rfl (by exact resa) _ (⟨rfl, rfl⟩) (by exact hsa)
set_option maxRecDepth 100000 in
set_option maxHeartbeats 8000000 in
theorem sym_right (q : Option Addr) (c kb : Nat) (P A S : List CV) (x : CV) (a m N : Nat) (ha : P.length = a) (hm : a + A.length = m) (hA2 : 2 ≤ A.length) (hN : P.length + A.length + 1 + S.length = N) (hNb : N ≤ 1000000000) (hwx : 0 ≤ x.1 ∧ x.1 ≤ 1000000000000) (hw : ∀ y ∈ A, 0 ≤ y.1 ∧ y.1 ≤ 1000000000000) (hs : Srt A) :
    Ct Try.prog 56 [.slice q N c, .int .i64 (a : Int), .int .i64 (m : Int), .int .i64 ((m + 1 : Nat) : Int), cmpV kb] [own (.slice q N c) 44 2 N (flat fC (P ++ A ++ [x] ++ S)), KB kb]
      fun v H' => v = .tuple #[] ∧ H' = [own (.slice q N c) 44 2 N (flat fC (P ++ sortW (A ++ [x]) ++ S))] := by
  subst hm
  unfold cmpV
  have e0 : P ++ A ++ [x] ++ S = mv P A S x A.length := by simp [mv]
  rw [e0]
  have hZl := mv_len P A S x
  have hx0 : (mv P A S x A.length)[a + A.length]? = some x := by
    rw [← e0]
    exact at_b (t := 0) (by rw [ha]; rfl) rfl
  have hAt : ∀ (t : Nat) (y : CV), A[t]? = some y → (mv P A S x A.length)[a + t]? = some y := fun t y hy => by
    rw [← e0]
    exact at_a ha hy
  (refine spec_enter Try.func56 Try.ntmps56 rfl rfl fun Fr => ?_; dsimp only [List.cons_append, List.nil_append, ini, Nat.reduceAdd])
  refine cod_shapeN pka (by omega) ?_
  rintro g rfl hc
  (repeat' (first | (apply run_qg 1; (focus rfl); (focus exact wt); (focus rfl); (focus (exact qg1))) | (apply run_qg 4; (focus rfl); (focus exact wt); (focus rfl); (focus (first | exact qg4 | exact qs4))) | refine cod_seq ?_ | refine cod_region ?_ | refine run_nil ?_ | refine pst_then ?_ | (apply cod_cond_t; (focus rfl)) | (apply cod_cond_f; (focus rfl)) | refine cod_block ?_ | refine cod_skip ?_))
  (refine cod_loop_rw (σ := Nat × Nat) (fun y => (y.1 ≤ y.2 ∧ y.2 ≤ A.length) ∧ (∀ t z, A[t]? = some z → t < y.1 → z.1 ≤ x.1) ∧ ∀ t z, A[t]? = some z → y.2 ≤ t → x.1 < z.1) (fun y => [(14, .int .i64 ((a + y.1 : Nat) : Int)), (15, .int .i64 ((a + y.2 : Nat) : Int))]) (fun y => [own (.slice (some ⟨g, 0, none⟩) N c) 44 2 N (flat fC (mv P A S x A.length))]) _ (fun y => y.2 - y.1) ((0, A.length)) (by exact ⟨⟨Nat.zero_le _, Nat.le_refl _⟩, fun t z _ h => absurd h (Nat.not_lt_zero _), fun t z h h2 => by have := (List.getElem?_eq_some_iff.1 h).1; dsimp only at h2; omega⟩) (by exact fsa) (by (first | exact HSub.of_picks_rest (by exact pca))) (fun ⟨u, v⟩ ⟨⟨huv, hvl⟩, hu, hv⟩ => ?_); dsimp only [List.cons_append, List.nil_append])
  dsimp only at huv hvl hu hv
  rcases Nat.lt_or_ge u v with hlt | hge
  · obtain ⟨w, hw2⟩ : ∃ w, (u + v) / 2 = w := ⟨_, rfl⟩
    have hwu : u ≤ w ∧ w < v := by omega
    obtain ⟨y, hy⟩ : ∃ y, A[w]? = some y := ⟨_, List.getElem?_eq_getElem (by omega)⟩
    have hyl := hAt w y hy
    have hh : (((a + u : Nat) : Int) + ((a + v : Nat) : Int)) / 2 = ((a + w : Nat) : Int) := by omega
    have hwy := hw y (List.mem_of_getElem? hy)
    have CM := cmp_any kb x y hwx hwy
    have hi1 : a + w < N := by omega
    have hi2 : a + A.length < N := by omega
    generalize hZ : mv P A S x A.length = Z at *
    by_cases hyx : x.1 < y.1
    · have hsub : x.1 - y.1 < 0 := by omega
      (repeat' (first | (apply run_qg 1; (focus rfl); (focus exact wt); (focus rfl); (focus (exact qg1))) | (apply run_qg 4; (focus rfl); (focus exact wt); (focus rfl); (focus (first | exact qg4 | exact qs4))) | (apply run_qg 11; (focus rfl); (focus exact wt); (focus rfl); (focus (exact qs11))) | refine cod_seq ?_ | refine cod_region ?_ | refine run_nil ?_ | refine pst_then ?_ | (apply cod_cond_t; (focus rfl)) | refine cod_block ?_ | refine cod_skip ?_ | (apply cod_drawn_k; (focus kernel_rfl); (focus (simp only [List.length_cons, List.length_nil, Nat.reduceAdd]; rfl))) | (apply drnK_take 1; (focus rfl); (focus rfl); (focus exact wt); (focus (decide +kernel)); (focus exact hsq); (focus rfl); (focus (exact qg1))) | (apply drnK_take 2; (focus rfl); (focus rfl); (focus exact wt); (focus (decide +kernel)); (focus exact hsq); (focus rfl); (focus (first | exact qg2 | exact qs2))) | (apply drnK_take 3; (focus rfl); (focus rfl); (focus exact wt); (focus (decide +kernel)); (focus exact hsq); (focus rfl); (focus (first | exact qg3 | exact qs3))) | (apply drnK_done; (focus (decide +kernel))) | (apply drnK_skip; (focus rfl)) | (apply drnK_wrap; (focus rfl))))
      rw [hh]
      (refine drnK_at 7 ?_; refine drnK_take _ rfl rfl wt (by decide +kernel) hsq rfl (q_index_own rfl rfl rfl pka rfl (by omega)) ?_)
      (repeat' (first | (apply drnK_take 2; (focus rfl); (focus rfl); (focus exact wt); (focus (decide +kernel)); (focus exact hsq); (focus rfl); (focus (first | exact qg2 | exact qs2))) | (apply drnK_skip; (focus rfl))))
      (refine drnK_at 9 ?_; (first | refine drnK_ones _ (by rfl) (by rfl) (by kernel_rfl) wt (by rfl) (by exact (opr_callv_ls (first := []) (cap := [bptr kb 0]) rfl rfl rfl CM rfl (Lp.view (KB_x kb) Lp.nil (view_kb pka)))) ?_ | refine drnK_onen _ (by rfl) (by rfl) (by kernel_rfl) wt (by exact (opr_callv_ls (first := []) (cap := [bptr kb 0]) rfl rfl rfl CM rfl (Lp.view (KB_x kb) Lp.nil (view_kb pka)))) ?_); rintro _ _ ⟨rfl, rfl⟩; refine ⟨(by first | exact fun h => absurd h (by decide) | exact fun _ => hsq), ?_⟩; (try dsimp only [List.cons_append, List.nil_append]))
      (repeat' (first | (apply run_qg 1; (focus rfl); (focus exact wt); (focus rfl); (focus (exact qg1))) | refine cod_region ?_ | refine run_nil ?_ | refine pst_then ?_ | (apply cod_cond_f; (focus rfl)) | refine pst_block ?_ | (apply drnK_take 4; (focus rfl); (focus rfl); (focus exact wt); (focus (decide +kernel)); (focus exact hsq); (focus rfl); (focus (first | exact qg4 | exact qs4))) | (apply drnK_end; (focus (decide +kernel)))))
      rw [← hZ]
      refine pst_again ((u, w)) ?_ (FSub.of (by (try dsimp only); exact fsa)) (by (try dsimp only); exact hsa) ?_
      · refine ⟨⟨by dsimp only; omega, by dsimp only; omega⟩, hu, fun t z hz ht => ?_⟩
        have := srt_le hs (by dsimp only at ht; omega : w ≤ t) hy hz
        omega
      · dsimp only; omega
    · have hsub : ¬ x.1 - y.1 < 0 := by omega
      (repeat' (first | (apply run_qg 1; (focus rfl); (focus exact wt); (focus rfl); (focus (exact qg1))) | (apply run_qg 4; (focus rfl); (focus exact wt); (focus rfl); (focus (first | exact qg4 | exact qs4))) | (apply run_qg 11; (focus rfl); (focus exact wt); (focus rfl); (focus (exact qs11))) | refine cod_seq ?_ | refine cod_region ?_ | refine run_nil ?_ | refine pst_then ?_ | (apply cod_cond_t; (focus rfl)) | refine cod_block ?_ | refine cod_skip ?_ | (apply cod_drawn_k; (focus kernel_rfl); (focus (simp only [List.length_cons, List.length_nil, Nat.reduceAdd]; rfl))) | (apply drnK_take 1; (focus rfl); (focus rfl); (focus exact wt); (focus (decide +kernel)); (focus exact hsq); (focus rfl); (focus (exact qg1))) | (apply drnK_take 2; (focus rfl); (focus rfl); (focus exact wt); (focus (decide +kernel)); (focus exact hsq); (focus rfl); (focus (first | exact qg2 | exact qs2))) | (apply drnK_take 3; (focus rfl); (focus rfl); (focus exact wt); (focus (decide +kernel)); (focus exact hsq); (focus rfl); (focus (first | exact qg3 | exact qs3))) | (apply drnK_done; (focus (decide +kernel))) | (apply drnK_skip; (focus rfl)) | (apply drnK_wrap; (focus rfl))))
      rw [hh]
      (refine drnK_at 7 ?_; refine drnK_take _ rfl rfl wt (by decide +kernel) hsq rfl (q_index_own rfl rfl rfl pka rfl (by omega)) ?_)
      (repeat' (first | (apply drnK_take 2; (focus rfl); (focus rfl); (focus exact wt); (focus (decide +kernel)); (focus exact hsq); (focus rfl); (focus (first | exact qg2 | exact qs2))) | (apply drnK_skip; (focus rfl))))
      (refine drnK_at 9 ?_; (first | refine drnK_ones _ (by rfl) (by rfl) (by kernel_rfl) wt (by rfl) (by exact (opr_callv_ls (first := []) (cap := [bptr kb 0]) rfl rfl rfl CM rfl (Lp.view (KB_x kb) Lp.nil (view_kb pka)))) ?_ | refine drnK_onen _ (by rfl) (by rfl) (by kernel_rfl) wt (by exact (opr_callv_ls (first := []) (cap := [bptr kb 0]) rfl rfl rfl CM rfl (Lp.view (KB_x kb) Lp.nil (view_kb pka)))) ?_); rintro _ _ ⟨rfl, rfl⟩; refine ⟨(by first | exact fun h => absurd h (by decide) | exact fun _ => hsq), ?_⟩; (try dsimp only [List.cons_append, List.nil_append]))
      (repeat' (first | (apply run_qg 1; (focus rfl); (focus exact wt); (focus rfl); (focus (exact qg1))) | (apply run_qg 4; (focus rfl); (focus exact wt); (focus rfl); (focus (first | exact qg4 | exact qs4))) | refine cod_region ?_ | refine run_nil ?_ | refine pst_then ?_ | (apply cod_cond_t; (focus rfl)) | refine pst_block ?_ | (apply drnK_take 4; (focus rfl); (focus rfl); (focus exact wt); (focus (decide +kernel)); (focus exact hsq); (focus rfl); (focus (first | exact qg4 | exact qs4))) | (apply drnK_end; (focus (decide +kernel)))))
      rw [← hZ]
      refine pst_again ((w + 1, v)) ?_ (FSub.of (by (try dsimp only); exact fsa)) (by (try dsimp only); exact hsa) ?_
      · refine ⟨⟨by dsimp only; omega, hvl⟩, fun t z hz ht => ?_, hv⟩
        have := srt_le hs (by dsimp only at ht; omega : t ≤ w) hz hy
        omega
      · dsimp only; omega
  · have huv2 : v = u := by omega
    subst huv2
    have hfin : P ++ sortW (A ++ [x]) ++ S = mv P A S x v := by
      have h1 := put_right (a := A.take v) (b := A.drop v) (x := x) (by rw [List.take_append_drop]; exact hs) (fun z hz => by
        obtain ⟨i, hi, h2⟩ := mem_take hz
        exact hu i z h2 hi) (fun z hz => by
        obtain ⟨i, hi, h2⟩ := mem_drop hz
        exact hv i z h2 hi)
      rw [List.take_append_drop] at h1
      rw [← h1]
      simp [mv]
    rw [hfin]
    have hstep := fun (t : Nat) (b : CV) => mv_swap P A S x (t := t) (a := a) (b := b) ha
    clear hu hv hfin hAt hx0
    (repeat' (first | (apply run_qg 1; (focus rfl); (focus exact wt); (focus rfl); (focus (exact qg1))) | (apply run_qg 4; (focus rfl); (focus exact wt); (focus rfl); (focus (first | exact qg4 | exact qs4))) | refine cod_seq ?_ | refine cod_region ?_ | refine run_nil ?_ | refine pst_then ?_ | (apply cod_cond_f; (focus rfl)) | refine cod_block ?_ | refine cod_exit ?_ | refine pst_block_here ?_ | refine pst_then_exit ?_))
    (refine cod_loop_rw (σ := Nat) (fun t => v ≤ t ∧ t ≤ A.length) (fun t => [(17, .int .i64 ((a + t : Nat) : Int))]) (fun t => [own (.slice (some ⟨g, 0, none⟩) N c) 44 2 N (flat fC (mv P A S x t))]) _ (fun t => t) (A.length) (by exact ⟨hvl, Nat.le_refl _⟩) (by exact fsa) (by (first | exact HSub.of_picks_rest (by exact pca))) (fun t ⟨ht, ht2⟩ => ?_); dsimp only [List.cons_append, List.nil_append])
    rcases Nat.lt_or_ge v t with htl | htg
    · obtain ⟨t, rfl⟩ : ∃ k, t = k + 1 := ⟨t - 1, by omega⟩
      obtain ⟨b, hb⟩ : ∃ b, A[t]? = some b := ⟨_, List.getElem?_eq_getElem (by omega)⟩
      obtain ⟨_, _, _, _, z1, z2, z3, z4⟩ := hstep t b hb
      have hJ : ((a + (t + 1) : Nat) : Int) - 1 = ((a + t : Nat) : Int) := by omega
      have hA : a + (t + 1) < N := by omega
      have hB : a + t < N := by omega
      have hlZ := hZl (t + 1)
      rw [hN] at hlZ
      generalize mv P A S x (t + 1) = Z at *
      (repeat' (first | (apply run_qg 1; (focus rfl); (focus exact wt); (focus rfl); (focus (exact qg1))) | (apply run_qg 4; (focus rfl); (focus exact wt); (focus rfl); (focus (first | exact qg4 | exact qs4))) | refine cod_seq ?_ | refine cod_region ?_ | refine run_nil ?_ | refine pst_then ?_ | (apply cod_cond_t; (focus rfl)) | refine cod_block ?_ | refine cod_skip ?_))
      refine cod_pre (by kernel_rfl) (by simp only [List.length_cons, List.length_nil, Nat.reduceAdd]; rfl) ?_
      refine pre_take 0 rfl wt (by decide +kernel) rfl (q_move rfl rfl) ?_
      refine pre_take 1 rfl wt (by decide +kernel) rfl (q_move rfl rfl) ?_
      refine pre_take 2 rfl wt (by decide +kernel) rfl (q_move rfl rfl) ?_
      refine pre_take 3 rfl wt (by decide +kernel) rfl (q_move rfl rfl) ?_
      refine pre_take 4 rfl wt (by decide +kernel) rfl (q_sub rfl rfl rfl (by omega)) ?_
      refine pre_take 5 rfl wt (by decide +kernel) rfl (q_move rfl rfl) ?_
      refine pre_take 6 rfl wt (by decide +kernel) rfl (q_move rfl rfl) ?_
      refine pre_take 7 rfl wt (by decide +kernel) rfl (q_sub rfl rfl rfl (by omega)) ?_
      rw [hJ]
      refine pre_take 8 rfl wt (by decide +kernel) rfl (q_index_at (i := a + t) rfl rfl rfl hB) ?_
      refine pre_take 10 rfl wt (by decide +kernel) rfl (q_move rfl rfl) ?_
      refine pre_take 11 rfl wt (by decide +kernel) rfl (q_move rfl rfl) ?_
      refine pre_take 12 rfl wt (by decide +kernel) rfl (q_index_at (i := a + (t + 1)) rfl rfl rfl hA) ?_
      refine pre_drn (Hq := [own (.slice (some ⟨g, 0, none⟩) N c) 44 2 N (flat fC Z)]) (nk := [15, 16, 17]) (r := 1) (i := 0) ?_
      (repeat' (first | (apply drnK_take 2; (focus rfl); (focus rfl); (focus exact wt); (focus (decide +kernel)); (focus exact hsq); (focus rfl); (focus (first | exact qg2 | exact qs2))) | (apply drnK_take 3; (focus rfl); (focus rfl); (focus exact wt); (focus (decide +kernel)); (focus exact hsq); (focus rfl); (focus (first | exact qg3 | exact qs3))) | (apply drnK_done; (focus (decide +kernel))) | (apply drnK_skip; (focus rfl)) | (apply drnK_wrap; (focus rfl))))
      (refine drnK_at 15 ?_; (first | refine drnK_ones _ (by rfl) (by rfl) (by kernel_rfl) wt (by rfl) (by exact (opr_store_ownm (f := fC) (q' := b) rfl rfl rfl rfl (by exact pka) rfl (by omega) (by intro _; rfl) (by assumption) rfl rfl (by rfl))) ?_ | refine drnK_onen _ (by rfl) (by rfl) (by kernel_rfl) wt (by exact (opr_store_ownm (f := fC) (q' := b) rfl rfl rfl rfl (by exact pka) rfl (by omega) (by intro _; rfl) (by assumption) rfl rfl (by rfl))) ?_); rintro _ _ ⟨rfl, rfl⟩; refine ⟨(by first | exact fun h => absurd h (by decide) | exact fun _ => hsq), ?_⟩; (try dsimp only [List.cons_append, List.nil_append]))
      (refine drnK_at 16 ?_; (first | refine drnK_ones _ (by rfl) (by rfl) (by kernel_rfl) wt (by rfl) (by exact (opr_of_qt (q_index_own (i := a + t) rfl rfl rfl pka (by omega) (by omega)))) ?_ | refine drnK_onen _ (by rfl) (by rfl) (by kernel_rfl) wt (by exact (opr_of_qt (q_index_own (i := a + t) rfl rfl rfl pka (by omega) (by omega)))) ?_); rintro _ _ ⟨rfl, rfl⟩; refine ⟨(by first | exact fun h => absurd h (by decide) | exact fun _ => hsq), ?_⟩; (try dsimp only [List.cons_append, List.nil_append]))
      (refine drnK_at 17 ?_; (first | refine drnK_ones _ (by rfl) (by rfl) (by kernel_rfl) wt (by rfl) (by exact (opr_store_ownm (f := fC) (q' := x) rfl rfl rfl rfl (by exact pka) rfl (by omega) (by intro _; rfl) (by assumption) rfl rfl (by rfl))) ?_ | refine drnK_onen _ (by rfl) (by rfl) (by kernel_rfl) wt (by exact (opr_store_ownm (f := fC) (q' := x) rfl rfl rfl rfl (by exact pka) rfl (by omega) (by intro _; rfl) (by assumption) rfl rfl (by rfl))) ?_); rintro _ _ ⟨rfl, rfl⟩; refine ⟨(by first | exact fun h => absurd h (by decide) | exact fun _ => hsq), ?_⟩; (try dsimp only [List.cons_append, List.nil_append]))
      rw [z4]
      (repeat' (first | (apply run_qg 1; (focus rfl); (focus exact wt); (focus rfl); (focus (exact qg1))) | (apply run_qg 4; (focus rfl); (focus exact wt); (focus rfl); (focus (first | exact qg4 | exact qs4))) | refine cod_region ?_ | refine run_nil ?_ | refine pst_then ?_ | refine pst_block ?_ | (apply drnK_end; (focus (decide +kernel)))))
      rw [hJ]
      refine pst_again (t) ?_ (FSub.of (by (try dsimp only); exact fsa)) (by (try dsimp only); exact hsa) ?_
      · exact ⟨by omega, by omega⟩
      · omega
    · have : t = v := by omega
      subst this
      (repeat' (first | (apply run_qg 1; (focus rfl); (focus exact wt); (focus rfl); (focus (exact qg1))) | (apply run_qg 4; (focus rfl); (focus exact wt); (focus rfl); (focus (first | exact qg4 | exact qs4))) | refine cod_seq ?_ | refine cod_region ?_ | refine run_nil ?_ | refine pst_then ?_ | (apply cod_cond_f; (focus rfl)) | refine cod_exit ?_ | refine cod_ret ?_ | refine pst_block_here ?_ | refine pst_then_exit ?_ | refine pst_then_ret ?_))
      exact pst_fin rfl (by exact resa) _ (⟨rfl, rfl⟩) (by exact hsa)
end Go.Proofs.Ytppnaofebkpbkaa.hsort
