/-
  huff: the comparison of two coins; insertion sort: the walks.
-/
import Derived.Test.YtppnaofebkpbkaaHuffSortA
namespace Go.Proofs.Ytppnaofebkpbkaa.hsort
open Go.RowKit kit sl Go.Proofs.Ytppnaofebkpbkaa.srt
set_option linter.unusedVariables false
/-- the comparison's captured variable: which number of a coin counts -/
def KB (b : Nat) : Ent := fro (box b [.func (.func 22) #[] #[]] 48)
theorem KB_x (b : Nat) : (KB b).excl = false := rfl
def cmpV (b : Nat) : Value := .func (.func 33) #[] #[bptr b 0]
theorem q_load_fro {P : Program} {n : Nat} {F : Frm} {H R : List Ent} {o : Oper} {x : Operand} {v z' : Value} {T : TypeId} {b by' : Nat} {t : TypeId} [ht : Ty P T false 1 by' z'] (ho : o.op = .load T x) (hx : ev F x = some (bptr b 0)) (p : Pick (fro (box b [v] t)) H R) : Qt P n o F H v := fun a w ha hw => by
  have hb : (box b [v] t).holds w := by
    have h1 := hw.1 _ p.mem
    exact h1
  have := loadVar_run ht w ⟨b, 0, none⟩ [v] rfl (fun j u hj => by rw [addr_add, Nat.zero_add, box_cells hb]; exact hj) (valOf_one v)
  simp [execOp, ho, ha.eval hx, bptr, Instr.loadAt, Instr.sureAddr, this]
theorem view_kb {S R : List Ent} {b : Nat} (p : Pick (KB b) S R) : View S (KB b) := View.same p rfl
theorem sortW_snoc {α : Type} [Key α] (l : List α) (x : α) : sortW (sortW l ++ [x]) = sortW (l ++ [x]) := by
  have := sortW_app l [x]
  rwa [sortW_of (l := [x]) (List.pairwise_singleton _ _)] at this
instance tyFn : Ty Try.prog 48 false 1 8 .nilFunc := ⟨by kernel_rfl, by rfl⟩
attribute [local irreducible] box own sl old bptr eptr Qt Opr Run Cod Pst Drn
set_option maxRecDepth 100000 in
set_option maxHeartbeats 8000000 in
theorem key_any (x : CV) : Ct Try.prog 22 [.agg (fC x).toArray] [] fun v H' => v = .int .i64 x.1 ∧ H' = [] := by
  obtain ⟨w, q, n, c⟩ := x
  (refine spec_enter Try.func22 Try.ntmps22 rfl rfl fun Fr => ?_; dsimp only [List.cons_append, List.nil_append, ini, Nat.reduceAdd])
  (repeat' (first | (apply run_qg 1; (focus rfl); (focus exact wt); (focus rfl); (focus (exact qg1))) | (apply run_qg 2; (focus rfl); (focus exact wt); (focus rfl); (focus (first | exact qg2 | exact qs2))) | (apply run_qg 3; (focus rfl); (focus exact wt); (focus rfl); (focus (first | exact qg3 | exact qs3))) | refine cod_seq ?_ | refine cod_region ?_ | refine run_nil ?_ | refine pst_then ?_ | refine cod_ret ?_ | (apply run_osg 8; (focus rfl); (focus exact wt); (focus rfl); (focus (exact opr_box_agg rfl rfl)); (rintro _ _ ⟨b, rfl, rfl⟩))))
  exact pst_fin rfl (by exact resa) _ (⟨rfl, rfl⟩) (by exact hsa)
set_option maxRecDepth 100000 in
set_option maxHeartbeats 8000000 in
theorem cmp_any (b : Nat) (x y : CV) (hx : 0 ≤ x.1 ∧ x.1 ≤ 1000000000000) (hy : 0 ≤ y.1 ∧ y.1 ≤ 1000000000000) : Ct Try.prog 33 [.agg (fC x).toArray, .agg (fC y).toArray, bptr b 0] [KB b] fun v H' => v = .int .i64 (x.1 - y.1) ∧ H' = [] := by
  have K1 := key_any x
  have K2 := key_any y
  obtain ⟨xw, xq, xn, xc⟩ := x
  obtain ⟨yw, yq, yn, yc⟩ := y
  dsimp only at hx hy
  (refine spec_enter Try.func33 Try.ntmps33 rfl rfl fun Fr => ?_; dsimp only [List.cons_append, List.nil_append, ini, Nat.reduceAdd])
  (repeat' (first | (apply run_qg 1; (focus rfl); (focus exact wt); (focus rfl); (focus (exact qg1))) | refine cod_seq ?_ | refine cod_region ?_ | refine run_nil ?_ | refine pst_then ?_ | (apply run_osg 8; (focus rfl); (focus exact wt); (focus rfl); (focus (exact opr_box_agg rfl rfl)); (rintro _ _ ⟨b, rfl, rfl⟩))))
  unfold KB
  (refine cod_drawn_ks (Hq := [_, _, _]) [0, 1, 2] [] rfl (by kernel_rfl) (by simp only [List.length_cons, List.length_nil, Nat.reduceAdd]; rfl) ?_)
  (refine drnK_at 0 ?_; refine drnK_take _ rfl rfl wt (by decide +kernel) hsq rfl (q_load_fro rfl rfl pka) ?_)
  (refine drnK_at 3 ?_; refine drnK_take _ rfl rfl wt (by decide +kernel) hsq rfl (q_load_fro rfl rfl pka) ?_)
  (repeat' (first | refine pst_then ?_ | refine cod_ret ?_ | (apply drnK_take 1; (focus rfl); (focus rfl); (focus exact wt); (focus (decide +kernel)); (focus exact hsq); (focus rfl); (focus (exact qg1))) | (apply drnK_take 2; (focus rfl); (focus rfl); (focus exact wt); (focus (decide +kernel)); (focus exact hsq); (focus rfl); (focus (first | exact qg2 | exact qs2))) | (apply drnK_take 4; (focus rfl); (focus rfl); (focus exact wt); (focus (decide +kernel)); (focus exact hsq); (focus rfl); (focus (first | exact qg4 | exact qs4))) | (apply drnK_end; (focus (decide +kernel))) | (apply drnK_done; (focus (decide +kernel))) | (apply drnK_ones 7; (focus rfl); (focus rfl); (focus (decide +kernel)); (focus exact wt); (focus rfl); (focus (exact opr_callv_ls (by rfl) (by rfl) (by rfl) (K1 ..) (by rfl) lpa)); (rintro _ _ ⟨rfl, rfl⟩; refine ⟨(by first | exact fun h => absurd h (by decide) | exact fun _ => hsq), ?_⟩)) | (apply drnK_ones 7; (focus rfl); (focus rfl); (focus (decide +kernel)); (focus exact wt); (focus rfl); (focus (exact opr_callv_ls (by rfl) (by rfl) (by rfl) (K2 ..) (by rfl) lpa)); (rintro _ _ ⟨rfl, rfl⟩; refine ⟨(by first | exact fun h => absurd h (by decide) | exact fun _ => hsq), ?_⟩)) | (apply drnK_skip; (focus rfl)) | (apply drnK_wrap; (focus rfl))))
  exact pst_fin rfl (by exact resa) _ (⟨rfl, rfl⟩) (by exact hsa)
set_option maxRecDepth 100000 in
set_option maxHeartbeats 8000000 in
theorem ins_any (q : Option Addr) (c kb : Nat) (P M S : List CV) (a e N : Nat) (ha : P.length = a) (he : a + M.length = e) (hN : (P ++ M ++ S).length = N) (hN0 : 0 < N) (hNb : N ≤ 1000000000) (hw : ∀ x ∈ M, 0 ≤ x.1 ∧ x.1 ≤ 1000000000000) :
    Ct Try.prog 55 [.slice q N c, .int .i64 (a : Int), .int .i64 (e : Int), cmpV kb] [own (.slice q N c) 44 2 N (flat fC (P ++ M ++ S)), KB kb]
      fun v H' => v = .tuple #[] ∧ H' = [own (.slice q N c) 44 2 N (flat fC (P ++ sortW M ++ S))] := by
  have hlen : P.length + M.length + S.length = N := by rw [← hN]; simp only [List.length_append]
  unfold cmpV
  have h1 : P ++ M ++ S = P ++ sortW (M.take 1) ++ M.drop 1 ++ S := by
    cases M with
    | nil => simp [sortW]
    | cons x M => simp [sortW, ins]
  rw [h1]
  have ha1 : (a : Int) + 1 = ((a + 1 : Nat) : Int) := by omega
  (refine spec_enter Try.func55 Try.ntmps55 rfl rfl fun Fr => ?_; dsimp only [List.cons_append, List.nil_append, ini, Nat.reduceAdd])
  refine cod_shapeN pka (by omega) ?_
  rintro g rfl hc
  (repeat' (first | (apply run_qg 1; (focus rfl); (focus exact wt); (focus rfl); (focus (exact qg1))) | (apply run_qg 4; (focus rfl); (focus exact wt); (focus rfl); (focus (first | exact qg4 | exact qs4))) | refine cod_seq ?_ | refine cod_region ?_ | refine run_nil ?_ | refine pst_then ?_ | refine cod_block ?_))
  rw [ha1]
  (refine cod_loop_rw (σ := Nat) (fun k => 1 ≤ k ∧ (k ≤ M.length ∨ k = 1)) (fun k => [(8, .int .i64 ((a + k : Nat) : Int))]) (fun k => [own (.slice (some ⟨g, 0, none⟩) N c) 44 2 N (flat fC (P ++ sortW (M.take k) ++ M.drop k ++ S))]) _ (fun k => M.length + 1 - k) (1) (by exact ⟨Nat.le_refl _, .inr rfl⟩) (by exact fsa) (by (first | exact HSub.of_picks_rest (by exact pca))) (fun k ⟨hk1, hk2⟩ => ?_); dsimp only [List.cons_append, List.nil_append])
  rcases Nat.lt_or_ge k M.length with hlt | hge
  · obtain ⟨x, hx⟩ : ∃ x, M[k]? = some x := ⟨_, List.getElem?_eq_getElem hlt⟩
    obtain ⟨h3, h4⟩ := List.getElem?_eq_some_iff.1 hx
    have ed : M.drop k = x :: M.drop (k + 1) := by rw [List.drop_eq_getElem_cons h3, h4]
    have et : M.take (k + 1) = M.take k ++ [x] := by rw [List.take_add_one, hx]; rfl
    have hsl : (sortW (M.take k)).length = k := by rw [sortW_len, List.length_take]; omega
    have hsr := sortW_srt (M.take k)
    have hso := sortW_snoc (M.take k) x
    rw [← et] at hso
    have hsm : ∀ y ∈ sortW (M.take k), 0 ≤ y.1 ∧ y.1 ≤ 1000000000000 := fun y hy => hw y (List.mem_of_mem_take (sortW_mem.1 hy))
    have hwx := hw x (List.mem_of_getElem? hx)
    have hdl : (M.drop (k + 1)).length = M.length - (k + 1) := List.length_drop
    have hak : ((a + k : Nat) : Int) + 1 = ((a + (k + 1) : Nat) : Int) := by omega
    have hake : ((a + k : Nat) : Int) < (e : Int) := by omega
    rw [ed]
    generalize hL : sortW (M.take k) = L at *
    generalize hTd : M.drop (k + 1) = T at *
    clear hx h3 h4 ed et hL
    rw [show P ++ L ++ x :: T ++ S = P ++ L ++ [x] ++ [] ++ (T ++ S) by simp]
    (repeat' (first | (apply run_qg 1; (focus rfl); (focus exact wt); (focus rfl); (focus (exact qg1))) | (apply run_qg 4; (focus rfl); (focus exact wt); (focus rfl); (focus (first | exact qg4 | exact qs4))) | refine cod_seq ?_ | refine cod_region ?_ | refine run_nil ?_ | refine pst_then ?_ | (apply cod_cond_t; (focus rfl)) | refine cod_block ?_ | refine cod_skip ?_))
    (refine cod_loop_rw (σ := List CV × List CV × Nat) (fun y => (y.1 ++ y.2.1 = L ∧ ∀ z ∈ y.2.1, x.1 < z.1) ∧ (y.1.length = y.2.2 ∧ y.2.2 ≤ k)) (fun y => [(9, .int .i64 ((a + y.2.2 : Nat) : Int))]) (fun y => [own (.slice (some ⟨g, 0, none⟩) N c) 44 2 N (flat fC (P ++ y.1 ++ [x] ++ y.2.1 ++ (T ++ S)))]) _ (fun y => y.2.2) ((L, [], k)) (by exact ⟨⟨List.append_nil _, fun z hz => absurd hz List.not_mem_nil⟩, hsl, Nat.le_refl _⟩) (by exact fsa) (by (first | exact HSub.of_picks_rest (by exact pca))) (fun ⟨L1, L2, j⟩ ⟨⟨hLL, hL2⟩, hl1, hl2⟩ => ?_); dsimp only [List.cons_append, List.nil_append])
    dsimp only at hLL hL2 hl1 hl2
    have done1 : (L1 = [] ∨ ∀ z ∈ L1, z.1 ≤ x.1) → L1 ++ x :: L2 = sortW (M.take (k + 1)) := fun h => by
      rw [← hso, ← hLL]
      refine put_right (by rw [hLL]; exact hsr) (fun z hz => ?_) hL2
      rcases h with h | h
      · rw [h] at hz; cases hz
      · exact h z hz
    cases j with
    | zero =>
      have hL1 : L1 = [] := List.eq_nil_of_length_eq_zero hl1
      have hd := done1 (.inl hL1)
      clear done1
      (repeat' (first | (apply run_qg 1; (focus rfl); (focus exact wt); (focus rfl); (focus (exact qg1))) | (apply run_qg 4; (focus rfl); (focus exact wt); (focus rfl); (focus (first | exact qg4 | exact qs4))) | refine cod_seq ?_ | refine cod_region ?_ | refine run_nil ?_ | refine pst_then ?_ | (apply cod_cond_f; (focus rfl)) | refine cod_exit ?_ | refine pst_block_here ?_ | refine pst_then_exit ?_ | refine pst_block ?_ | (apply cod_drawn_k; (focus kernel_rfl); (focus (simp only [List.length_cons, List.length_nil, Nat.reduceAdd]; rfl))) | (apply drnK_take 1; (focus rfl); (focus rfl); (focus exact wt); (focus (decide +kernel)); (focus exact hsq); (focus rfl); (focus (exact qg1))) | (apply drnK_take 4; (focus rfl); (focus rfl); (focus exact wt); (focus (decide +kernel)); (focus exact hsq); (focus rfl); (focus (first | exact qg4 | exact qs4))) | (apply drnK_off; (focus rfl); (focus rfl); (focus rfl); (focus (decide +kernel)); (focus exact hsq); (focus rfl)) | (apply drnK_end; (focus (decide +kernel)))))
      rw [show P ++ L1 ++ [x] ++ L2 ++ (T ++ S) = P ++ (L1 ++ x :: L2) ++ T ++ S by simp, hd, hak, ← hTd]
      refine pst_again (k + 1) ?_ (FSub.of (by (try dsimp only); exact fsa)) (by (try dsimp only); exact hsa) ?_
      · exact ⟨by omega, .inl hlt⟩
      · omega
    | succ j =>
      obtain ⟨L0, y, hL0⟩ : ∃ L0 y, L1 = L0 ++ [y] := ⟨L1.dropLast, L1.getLast (fun h => by rw [h] at hl1; simp at hl1), (List.dropLast_concat_getLast _).symm⟩
      subst hL0
      have hl0 : L0.length = j := by rw [List.length_append, List.length_singleton] at hl1; omega
      obtain ⟨z1, z2, _, _, z5, z6⟩ := swap_two (P ++ L0) [] (L2 ++ (T ++ S)) y x (i := a + j) (j := a + (j + 1)) (by rw [List.length_append]; omega) rfl
      have eZ : P ++ (L0 ++ [y]) ++ [x] ++ L2 ++ (T ++ S) = (P ++ L0) ++ y :: ([] ++ x :: (L2 ++ (T ++ S))) := by simp
      have eZ2 : (P ++ L0) ++ x :: ([] ++ y :: (L2 ++ (T ++ S))) = P ++ L0 ++ [x] ++ (y :: L2) ++ (T ++ S) := by simp
      rw [eZ]
      rw [eZ2] at z6
      have hwy : 0 ≤ y.1 ∧ y.1 ≤ 1000000000000 := hsm y (by rw [← hLL]; simp)
      have hJ : ((a + (j + 1) : Nat) : Int) - 1 = ((a + j : Nat) : Int) := by omega
      have hA : a + (j + 1) < N := by omega
      have hB : a + j < N := by omega
      have hlZ : ((P ++ L0) ++ y :: ([] ++ x :: (L2 ++ (T ++ S)))).length = N := by
        have h5 := congrArg List.length hLL
        simp only [List.length_append, List.length_cons, List.length_nil] at h5 hl1 ⊢
        omega
      have CM := cmp_any kb x y hwx hwy
      have eZ' := eZ
      generalize (P ++ L0) ++ y :: ([] ++ x :: (L2 ++ (T ++ S))) = Z at *
      clear eZ
      by_cases hxy : x.1 < y.1
      · have hsub : x.1 - y.1 < 0 := by omega
        (repeat' (first | refine cod_seq ?_))
        (refine cod_drawn_ks (Hq := [_, _]) [0, 1] [] rfl (by kernel_rfl) (by simp only [List.length_cons, List.length_nil, Nat.reduceAdd]; rfl) ?_)
        (repeat' (first | (apply drnK_take 1; (focus rfl); (focus rfl); (focus exact wt); (focus (decide +kernel)); (focus exact hsq); (focus rfl); (focus (exact qg1))) | (apply drnK_take 2; (focus rfl); (focus rfl); (focus exact wt); (focus (decide +kernel)); (focus exact hsq); (focus rfl); (focus (first | exact qg2 | exact qs2))) | (apply drnK_take 3; (focus rfl); (focus rfl); (focus exact wt); (focus (decide +kernel)); (focus exact hsq); (focus rfl); (focus (first | exact qg3 | exact qs3))) | (apply drnK_take 4; (focus rfl); (focus rfl); (focus exact wt); (focus (decide +kernel)); (focus exact hsq); (focus rfl); (focus (first | exact qg4 | exact qs4))) | (apply drnK_done; (focus (decide +kernel))) | (apply drnK_skip; (focus rfl)) | (apply drnK_wrap; (focus rfl))))
        rw [hJ]
        (refine drnK_at 12 ?_; refine drnK_take _ rfl rfl wt (by decide +kernel) hsq rfl (q_index_own rfl rfl rfl pka rfl (by omega)) ?_)
        (repeat' (first | (apply drnK_take 2; (focus rfl); (focus rfl); (focus exact wt); (focus (decide +kernel)); (focus exact hsq); (focus rfl); (focus (first | exact qg2 | exact qs2))) | (apply drnK_skip; (focus rfl))))
        (refine drnK_at 14 ?_; (first | refine drnK_ones _ (by rfl) (by rfl) (by kernel_rfl) wt (by rfl) (by exact (opr_callv_ls (first := []) (cap := [bptr kb 0]) rfl rfl rfl CM rfl (Lp.view (KB_x kb) Lp.nil (view_kb pka)))) ?_ | refine drnK_onen _ (by rfl) (by rfl) (by kernel_rfl) wt (by exact (opr_callv_ls (first := []) (cap := [bptr kb 0]) rfl rfl rfl CM rfl (Lp.view (KB_x kb) Lp.nil (view_kb pka)))) ?_); rintro _ _ ⟨rfl, rfl⟩; refine ⟨(by first | exact fun h => absurd h (by decide) | exact fun _ => hsq), ?_⟩; (try dsimp only [List.cons_append, List.nil_append]))
        (repeat' (first | refine cod_seq ?_ | refine pst_then ?_ | (apply cod_cond_t; (focus rfl)) | refine cod_block ?_ | refine cod_skip ?_ | (apply drnK_take 1; (focus rfl); (focus rfl); (focus exact wt); (focus (decide +kernel)); (focus exact hsq); (focus rfl); (focus (exact qg1))) | (apply drnK_take 4; (focus rfl); (focus rfl); (focus exact wt); (focus (decide +kernel)); (focus exact hsq); (focus rfl); (focus (first | exact qg4 | exact qs4))) | (apply drnK_end; (focus (decide +kernel)))))
        refine cod_pre (by kernel_rfl) (by simp only [List.length_cons, List.length_nil, Nat.reduceAdd]; rfl) ?_
        refine pre_take 0 rfl wt (by decide +kernel) rfl (q_move rfl rfl) ?_
        refine pre_take 1 rfl wt (by decide +kernel) rfl (q_move rfl rfl) ?_
        refine pre_take 2 rfl wt (by decide +kernel) rfl (q_move rfl rfl) ?_
        refine pre_take 3 rfl wt (by decide +kernel) rfl (q_move rfl rfl) ?_
        refine pre_take 4 rfl wt (by decide +kernel) rfl (q_sub rfl rfl rfl (by omega)) ?_
        refine pre_take 5 rfl wt (by decide +kernel) rfl (q_move rfl rfl) ?_
        refine pre_take 6 rfl wt (by decide +kernel) rfl (q_move rfl rfl) ?_
        refine pre_take 7 rfl wt (by decide +kernel) rfl (q_sub rfl rfl rfl (by omega)) ?_
        rw [hJ]
        refine pre_take 8 rfl wt (by decide +kernel) rfl (q_index_at (i := a + j) rfl rfl rfl hB) ?_
        refine pre_take 10 rfl wt (by decide +kernel) rfl (q_move rfl rfl) ?_
        refine pre_take 11 rfl wt (by decide +kernel) rfl (q_move rfl rfl) ?_
        refine pre_take 12 rfl wt (by decide +kernel) rfl (q_index_at (i := a + (j + 1)) rfl rfl rfl hA) ?_
        refine pre_drn (Hq := [own (.slice (some ⟨g, 0, none⟩) N c) 44 2 N (flat fC Z)]) (nk := [15, 16, 17]) (r := 1) (i := 0) ?_
        (repeat' (first | (apply drnK_take 2; (focus rfl); (focus rfl); (focus exact wt); (focus (decide +kernel)); (focus exact hsq); (focus rfl); (focus (first | exact qg2 | exact qs2))) | (apply drnK_take 3; (focus rfl); (focus rfl); (focus exact wt); (focus (decide +kernel)); (focus exact hsq); (focus rfl); (focus (first | exact qg3 | exact qs3))) | (apply drnK_done; (focus (decide +kernel))) | (apply drnK_skip; (focus rfl)) | (apply drnK_wrap; (focus rfl))))
        (refine drnK_at 15 ?_; (first | refine drnK_ones _ (by rfl) (by rfl) (by kernel_rfl) wt (by rfl) (by exact (opr_store_ownm (f := fC) (q' := y) rfl rfl rfl rfl (by exact pka) rfl (by omega) (by intro _; rfl) (by assumption) rfl rfl (by rfl))) ?_ | refine drnK_onen _ (by rfl) (by rfl) (by kernel_rfl) wt (by exact (opr_store_ownm (f := fC) (q' := y) rfl rfl rfl rfl (by exact pka) rfl (by omega) (by intro _; rfl) (by assumption) rfl rfl (by rfl))) ?_); rintro _ _ ⟨rfl, rfl⟩; refine ⟨(by first | exact fun h => absurd h (by decide) | exact fun _ => hsq), ?_⟩; (try dsimp only [List.cons_append, List.nil_append]))
        (refine drnK_at 16 ?_; (first | refine drnK_ones _ (by rfl) (by rfl) (by kernel_rfl) wt (by rfl) (by exact (opr_of_qt (q_index_own (i := a + j) rfl rfl rfl pka (by omega) (by omega)))) ?_ | refine drnK_onen _ (by rfl) (by rfl) (by kernel_rfl) wt (by exact (opr_of_qt (q_index_own (i := a + j) rfl rfl rfl pka (by omega) (by omega)))) ?_); rintro _ _ ⟨rfl, rfl⟩; refine ⟨(by first | exact fun h => absurd h (by decide) | exact fun _ => hsq), ?_⟩; (try dsimp only [List.cons_append, List.nil_append]))
        (refine drnK_at 17 ?_; (first | refine drnK_ones _ (by rfl) (by rfl) (by kernel_rfl) wt (by rfl) (by exact (opr_store_ownm (f := fC) (q' := x) rfl rfl rfl rfl (by exact pka) rfl (by omega) (by intro _; rfl) (by assumption) rfl rfl (by rfl))) ?_ | refine drnK_onen _ (by rfl) (by rfl) (by kernel_rfl) wt (by exact (opr_store_ownm (f := fC) (q' := x) rfl rfl rfl rfl (by exact pka) rfl (by omega) (by intro _; rfl) (by assumption) rfl rfl (by rfl))) ?_); rintro _ _ ⟨rfl, rfl⟩; refine ⟨(by first | exact fun h => absurd h (by decide) | exact fun _ => hsq), ?_⟩; (try dsimp only [List.cons_append, List.nil_append]))
        rw [z6]
        (repeat' (first | (apply run_qg 1; (focus rfl); (focus exact wt); (focus rfl); (focus (exact qg1))) | (apply run_qg 4; (focus rfl); (focus exact wt); (focus rfl); (focus (first | exact qg4 | exact qs4))) | refine cod_region ?_ | refine run_nil ?_ | refine pst_then ?_ | refine pst_block ?_ | (apply drnK_end; (focus (decide +kernel)))))
        rw [hJ]
        refine pst_again ((L0, y :: L2, j)) ?_ (FSub.of (by (try dsimp only); exact fsa)) (by (try dsimp only); exact hsa) ?_
        · refine ⟨⟨by rw [← hLL]; simp, fun z hz => ?_⟩, hl0, by dsimp only; omega⟩
          rcases List.mem_cons.1 hz with rfl | hz
          · exact hxy
          · exact hL2 z hz
        · dsimp only; omega
      · have hsub : ¬ x.1 - y.1 < 0 := by omega
        have hd := done1 (.inr fun z hz => by
          have h5 : Srt (L0 ++ [y] ++ L2) := by rw [hLL]; exact hsr
          have h6 := (srt_app.1 (srt_app.1 h5).1).2.2
          rcases List.mem_append.1 hz with hz | hz
          · have h7 : z.1 ≤ y.1 := h6 z hz y List.mem_cons_self
            omega
          · rw [List.mem_singleton.1 hz]; omega)
        (repeat' (first | refine cod_seq ?_))
        (refine cod_drawn_ks (Hq := [_, _]) [0, 1] [] rfl (by kernel_rfl) (by simp only [List.length_cons, List.length_nil, Nat.reduceAdd]; rfl) ?_)
        (repeat' (first | (apply drnK_take 1; (focus rfl); (focus rfl); (focus exact wt); (focus (decide +kernel)); (focus exact hsq); (focus rfl); (focus (exact qg1))) | (apply drnK_take 2; (focus rfl); (focus rfl); (focus exact wt); (focus (decide +kernel)); (focus exact hsq); (focus rfl); (focus (first | exact qg2 | exact qs2))) | (apply drnK_take 3; (focus rfl); (focus rfl); (focus exact wt); (focus (decide +kernel)); (focus exact hsq); (focus rfl); (focus (first | exact qg3 | exact qs3))) | (apply drnK_take 4; (focus rfl); (focus rfl); (focus exact wt); (focus (decide +kernel)); (focus exact hsq); (focus rfl); (focus (first | exact qg4 | exact qs4))) | (apply drnK_done; (focus (decide +kernel))) | (apply drnK_skip; (focus rfl)) | (apply drnK_wrap; (focus rfl))))
        rw [hJ]
        (refine drnK_at 12 ?_; refine drnK_take _ rfl rfl wt (by decide +kernel) hsq rfl (q_index_own rfl rfl rfl pka rfl (by omega)) ?_)
        (repeat' (first | (apply drnK_take 2; (focus rfl); (focus rfl); (focus exact wt); (focus (decide +kernel)); (focus exact hsq); (focus rfl); (focus (first | exact qg2 | exact qs2))) | (apply drnK_skip; (focus rfl))))
        (refine drnK_at 14 ?_; (first | refine drnK_ones _ (by rfl) (by rfl) (by kernel_rfl) wt (by rfl) (by exact (opr_callv_ls (first := []) (cap := [bptr kb 0]) rfl rfl rfl CM rfl (Lp.view (KB_x kb) Lp.nil (view_kb pka)))) ?_ | refine drnK_onen _ (by rfl) (by rfl) (by kernel_rfl) wt (by exact (opr_callv_ls (first := []) (cap := [bptr kb 0]) rfl rfl rfl CM rfl (Lp.view (KB_x kb) Lp.nil (view_kb pka)))) ?_); rintro _ _ ⟨rfl, rfl⟩; refine ⟨(by first | exact fun h => absurd h (by decide) | exact fun _ => hsq), ?_⟩; (try dsimp only [List.cons_append, List.nil_append]))
        (repeat' (first | (apply run_qg 1; (focus rfl); (focus exact wt); (focus rfl); (focus (exact qg1))) | (apply run_qg 4; (focus rfl); (focus exact wt); (focus rfl); (focus (first | exact qg4 | exact qs4))) | refine cod_region ?_ | refine run_nil ?_ | refine pst_then ?_ | (apply cod_cond_f; (focus rfl)) | refine cod_exit ?_ | refine pst_block_here ?_ | refine pst_then_exit ?_ | refine pst_block ?_ | (apply drnK_take 1; (focus rfl); (focus rfl); (focus exact wt); (focus (decide +kernel)); (focus exact hsq); (focus rfl); (focus (exact qg1))) | (apply drnK_take 4; (focus rfl); (focus rfl); (focus exact wt); (focus (decide +kernel)); (focus exact hsq); (focus rfl); (focus (first | exact qg4 | exact qs4))) | (apply drnK_end; (focus (decide +kernel)))))
        rw [← eZ', show P ++ (L0 ++ [y]) ++ [x] ++ L2 ++ (T ++ S) = P ++ (L0 ++ [y] ++ x :: L2) ++ T ++ S by simp, hd, hak, ← hTd]
        refine pst_again (k + 1) ?_ (FSub.of (by (try dsimp only); exact fsa)) (by (try dsimp only); exact hsa) ?_
        · exact ⟨by omega, .inl hlt⟩
        · omega
  · have hM : M.take k = M := List.take_of_length_le hge
    have hMd : M.drop k = [] := List.drop_of_length_le hge
    rw [hM, hMd, List.append_nil]
    (repeat' (first | (apply run_qg 1; (focus rfl); (focus exact wt); (focus rfl); (focus (exact qg1))) | (apply run_qg 4; (focus rfl); (focus exact wt); (focus rfl); (focus (first | exact qg4 | exact qs4))) | refine cod_seq ?_ | refine cod_region ?_ | refine run_nil ?_ | refine pst_then ?_ | (apply cod_cond_f; (focus rfl)) | refine cod_exit ?_ | refine pst_block_here ?_ | refine pst_then_exit ?_))
    exact pst_fin_end rfl (by exact resa) _ (⟨rfl, rfl⟩) (by exact hsa)
end Go.Proofs.Ytppnaofebkpbkaa.hsort
