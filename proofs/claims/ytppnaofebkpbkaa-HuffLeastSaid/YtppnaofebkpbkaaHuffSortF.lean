/-
  huff: slices.SortStableFunc of coins: the walk.
-/
import Derived.Test.YtppnaofebkpbkaaHuffSortE
namespace Go.Proofs.Ytppnaofebkpbkaa.hsort
open Go.RowKit kit sl Go.Proofs.Ytppnaofebkpbkaa.srt
set_option linter.unusedVariables false
/-- sorted block by block -/
def blk (bs : Nat) : Nat → List CV → List CV
  | 0, l => sortW l
  | f + 1, l => sortW (l.take bs) ++ blk bs f (l.drop bs)
theorem blk_nil (bs : Nat) : ∀ f, blk bs f [] = []
  | 0 => rfl
  | f + 1 => by rw [blk, List.take_nil, List.drop_nil, blk_nil bs f]; rfl
theorem blk_small {bs f : Nat} {l : List CV} (h : l.length ≤ bs) : blk bs f l = sortW l := by
  cases f with
  | zero => rfl
  | succ f => rw [blk, List.take_of_length_le h, List.drop_of_length_le h, blk_nil, List.append_nil]
theorem blk_fuel {bs : Nat} (hb : 0 < bs) : ∀ (f g : Nat) (l : List CV), l.length ≤ f → l.length ≤ g → blk bs f l = blk bs g l
  | 0, g, l, h, _ => by
    have : l = [] := List.eq_nil_of_length_eq_zero (by omega)
    subst this
    rw [blk_nil, blk_nil]
  | f + 1, 0, l, _, h => by
    have : l = [] := List.eq_nil_of_length_eq_zero (by omega)
    subst this
    rw [blk_nil, blk_nil]
  | f + 1, g + 1, l, h, h' => by
    rw [blk, blk]
    by_cases hl : l = []
    · subst hl
      rw [List.drop_nil, blk_nil, blk_nil]
    · have : 0 < l.length := List.length_pos_iff.2 hl
      rw [blk_fuel hb f g (l.drop bs) (by rw [List.length_drop]; omega) (by rw [List.length_drop]; omega)]
theorem blk_step {bs N : Nat} (hb : 0 < bs) {l : List CV} (h : l.length ≤ N) (h0 : 0 < N) : blk bs N l = sortW (l.take bs) ++ blk bs N (l.drop bs) := by
  obtain ⟨f, rfl⟩ : ∃ f, N = f + 1 := ⟨N - 1, by omega⟩
  rw [blk]
  congr 1
  by_cases hl : l = []
  · subst hl
    rw [List.drop_nil, blk_nil, blk_nil]
  · have : 0 < l.length := List.length_pos_iff.2 hl
    exact blk_fuel hb f (f + 1) _ (by rw [List.length_drop]; omega) (by rw [List.length_drop]; omega)
theorem blk_len {bs : Nat} : ∀ (f : Nat) (l : List CV), (blk bs f l).length = l.length
  | 0, l => sortW_len l
  | f + 1, l => by
    rw [blk, List.length_append, sortW_len, blk_len f, List.length_take, List.length_drop]
    omega
theorem two_take {l : List CV} (bs : Nat) : l.take bs ++ (l.drop bs).take bs = l.take (2 * bs) := by
  rw [Nat.two_mul, List.take_add]
theorem two_drop {l : List CV} (bs : Nat) : (l.drop bs).drop bs = l.drop (2 * bs) := by
  rw [List.drop_drop, Nat.two_mul]
attribute [local irreducible] box own sl old bptr eptr Qt Opr Run Cod Pst Drn
set_option maxRecDepth 100000 in
set_option maxHeartbeats 8000000 in
theorem stable_any (q : Option Addr) (c kb : Nat) (l : List CV) (N : Nat) (hN : l.length = N) (hN0 : 0 < N) (hNb : N ≤ 1000000000) (hw : ∀ x ∈ l, 0 ≤ x.1 ∧ x.1 ≤ 1000000000000) :
    Ct Try.prog 32 [.slice q N c, .int .i64 (N : Int), cmpV kb] [own (.slice q N c) 44 2 N (flat fC l), KB kb]
      fun v H' => v = .tuple #[] ∧ H' = [own (.slice q N c) 44 2 N (flat fC (sortW l))] := by
  (refine spec_enter Try.func32 Try.ntmps32 rfl rfl fun Fr => ?_; dsimp only [List.cons_append, List.nil_append, ini, Nat.reduceAdd])
  (repeat' (first | (apply run_qg 1; (focus rfl); (focus exact wt); (focus rfl); (focus (exact qg1))) | refine cod_seq ?_ | refine cod_region ?_ | refine run_nil ?_ | refine pst_then ?_ | refine cod_block ?_))
  (refine cod_loop_rw (σ := List CV × List CV × Nat) (fun y => ((y.1 ++ blk 20 N y.2.1 = blk 20 N l ∧ y.1.length = y.2.2) ∧ y.2.2 + y.2.1.length = N) ∧ ∀ x ∈ y.2.1, 0 ≤ x.1 ∧ x.1 ≤ 1000000000000) (fun y => [(7, .int .i64 (y.2.2 : Int)), (8, .int .i64 ((y.2.2 + 20 : Nat) : Int))]) (fun y => [own (.slice q N c) 44 2 N (flat fC (y.1 ++ y.2.1))]) _ (fun y => y.2.1.length) (([], l, 0)) (by exact ⟨⟨⟨rfl, rfl⟩, by dsimp only; omega⟩, hw⟩) (by exact fsa) (by (first | exact HSub.of_picks_rest (by exact pca))) (fun ⟨D, T, a⟩ ⟨⟨⟨hD, hDl⟩, hT⟩, hwT⟩ => ?_); dsimp only [List.cons_append, List.nil_append])
  dsimp only at hD hDl hT hwT
  by_cases h20 : a + 20 ≤ N
  · have ht1 : (T.take 20).length = 20 := by rw [List.length_take]; omega
    have ht2 : (T.drop 20).length = T.length - 20 := List.length_drop
    have IN := ins_any q c kb D (T.take 20) (T.drop 20) a (a + 20) N hDl (by omega) (by simp only [List.length_append]; omega) hN0 hNb fun x hx => hwT x (List.mem_of_mem_take hx)
    rw [show D ++ T = D ++ T.take 20 ++ T.drop 20 by rw [List.append_assoc, List.take_append_drop]]
    have hst := blk_step (bs := 20) (N := N) (by decide) (l := T) (by omega) hN0
    have hc2 : ((a + 20 : Nat) : Int) + 20 = ((a + 20 + 20 : Nat) : Int) := by omega
    (repeat' (first | (apply run_qg 1; (focus rfl); (focus exact wt); (focus rfl); (focus (exact qg1))) | (apply run_qg 4; (focus rfl); (focus exact wt); (focus rfl); (focus (first | exact qg4 | exact qs4))) | refine cod_seq ?_ | refine cod_region ?_ | refine run_nil ?_ | refine pst_then ?_ | (apply cod_cond_t; (focus rfl)) | refine cod_block ?_ | refine cod_skip ?_))
    refine run_os wt rfl (opr_call_l rfl IN rfl (Lp.out pka (Lp.view (KB_x kb) Lp.nil (view_kb pka)))) ?_
    rintro _ _ ⟨_, ⟨rfl, rfl⟩, rfl⟩
    dsimp only [List.cons_append, List.nil_append]
    (repeat' (first | (apply run_qg 1; (focus rfl); (focus exact wt); (focus rfl); (focus (exact qg1))) | (apply run_qg 4; (focus rfl); (focus exact wt); (focus rfl); (focus (first | exact qg4 | exact qs4))) | refine cod_seq ?_ | refine cod_region ?_ | refine run_nil ?_ | refine pst_then ?_ | refine pst_block ?_))
    rw [hc2]
    refine pst_again ((D ++ sortW (T.take 20), T.drop 20, a + 20)) ?_ (FSub.of (by (try dsimp only); exact fsa)) (by (try dsimp only); exact hsa) ?_
    · refine ⟨⟨⟨?_, ?_⟩, by dsimp only; omega⟩, fun x hx => hwT x (List.mem_of_mem_drop hx)⟩
      · rw [← hD, hst, List.append_assoc]
      · dsimp only; rw [List.length_append, sortW_len]; omega
    · dsimp only; omega
  · have IN := ins_any q c kb D T [] a N N hDl (by omega) (by simp only [List.length_append, List.length_nil]; omega) hN0 hNb hwT
    rw [show D ++ T = D ++ T ++ [] by rw [List.append_nil]]
    have hfin : D ++ sortW T ++ [] = blk 20 N l := by rw [List.append_nil, ← hD, blk_small (by omega)]
    (repeat' (first | (apply run_qg 1; (focus rfl); (focus exact wt); (focus rfl); (focus (exact qg1))) | (apply run_qg 4; (focus rfl); (focus exact wt); (focus rfl); (focus (first | exact qg4 | exact qs4))) | refine cod_seq ?_ | refine cod_region ?_ | refine run_nil ?_ | refine pst_then ?_ | (apply cod_cond_f; (focus rfl)) | refine cod_exit ?_ | refine pst_block_here ?_ | refine pst_then_exit ?_))
    refine run_os wt rfl (opr_call_l rfl IN rfl (Lp.out pka (Lp.view (KB_x kb) Lp.nil (view_kb pka)))) ?_
    rintro _ _ ⟨_, ⟨rfl, rfl⟩, rfl⟩
    dsimp only [List.cons_append, List.nil_append]
    rw [hfin]
    clear hD hDl hT hwT IN hfin
    (repeat' (first | refine run_nil ?_ | refine pst_then ?_ | refine cod_block ?_))
    (refine cod_loop_rw (σ := Nat × Int × Int) (fun y => 20 ≤ y.1) (fun y => [(6, .int .i64 (y.1 : Int)), (7, .int .i64 y.2.1), (8, .int .i64 y.2.2)]) (fun y => [own (.slice q N c) 44 2 N (flat fC (blk y.1 N l))]) _ (fun y => N - y.1) ((20, (a : Int), ((a + 20 : Nat) : Int))) (by exact Nat.le_refl _) (by exact fsa) (by (first | exact HSub.of_picks_rest (by exact pca))) (fun ⟨bs, x7, x8⟩ hbs => ?_); dsimp only [List.cons_append, List.nil_append])
    dsimp only at hbs ⊢
    by_cases hbN : bs < N
    · have h2b : 2 * (bs : Int) = ((2 * bs : Nat) : Int) := by omega
      have h2b' : (bs : Int) * 2 = ((2 * bs : Nat) : Int) := by omega
      (repeat' (first | (apply run_qg 1; (focus rfl); (focus exact wt); (focus rfl); (focus (exact qg1))) | (apply run_qg 4; (focus rfl); (focus exact wt); (focus rfl); (focus (first | exact qg4 | exact qs4))) | refine cod_seq ?_ | refine cod_region ?_ | refine run_nil ?_ | refine pst_then ?_ | (apply cod_cond_t; (focus rfl)) | refine cod_block ?_ | refine cod_skip ?_))
      rw [h2b]
      (refine cod_loop_rw (σ := List CV × List CV × Nat) (fun y => ((y.1 ++ blk (2 * bs) N y.2.1 = blk (2 * bs) N l ∧ y.1.length = y.2.2) ∧ y.2.2 + y.2.1.length = N) ∧ ∀ x ∈ y.2.1, 0 ≤ x.1 ∧ x.1 ≤ 1000000000000) (fun y => [(7, .int .i64 (y.2.2 : Int)), (8, .int .i64 ((2 * bs + y.2.2 : Nat) : Int))]) (fun y => [own (.slice q N c) 44 2 N (flat fC (y.1 ++ blk bs N y.2.1))]) _ (fun y => y.2.1.length) (([], l, 0)) (by exact ⟨⟨⟨rfl, rfl⟩, by dsimp only; omega⟩, hw⟩) (by exact fsa) (by (first | exact HSub.of_picks_rest (by exact pca))) (fun ⟨D, T, a⟩ ⟨⟨⟨hD, hDl⟩, hT⟩, hwT⟩ => ?_); dsimp only [List.cons_append, List.nil_append])
      dsimp only at hD hDl hT hwT
      have hab : (a : Int) + (bs : Int) = ((a + bs : Nat) : Int) := by omega
      have s1 := sortW_srt (T.take bs)
      by_cases hb2 : a + 2 * bs ≤ N
      · have ht1 : (T.take bs).length = bs := by rw [List.length_take]; omega
        have ht2 : ((T.drop bs).take bs).length = bs := by rw [List.length_take, List.length_drop]; omega
        have ht3 : (T.drop (2 * bs)).length = T.length - 2 * bs := List.length_drop
        have e1 := blk_step (bs := bs) (N := N) (by omega) (l := T) (by omega) hN0
        have e2 := blk_step (bs := bs) (N := N) (by omega) (l := T.drop bs) (by rw [List.length_drop]; omega) hN0
        rw [two_drop] at e2
        have e3 := blk_step (bs := 2 * bs) (N := N) (by omega) (l := T) (by omega) hN0
        have hbl := blk_len (bs := bs) N (T.drop (2 * bs))
        have SY := sym_any (2 * bs) q c kb D (sortW (T.take bs)) (sortW ((T.drop bs).take bs)) (blk bs N (T.drop (2 * bs))) a (a + bs) (2 * bs + a) N hDl (by rw [sortW_len]; omega) (by rw [sortW_len]; omega) (by rw [sortW_len]; omega) (by rw [sortW_len]; omega) (by rw [sortW_len, sortW_len]; omega) (by simp only [List.length_append, sortW_len]; omega) hNb (fun x hx => by
          rcases List.mem_append.1 hx with h | h
          · exact hwT x (List.mem_of_mem_take (sortW_mem.1 h))
          · exact hwT x (List.mem_of_mem_drop (List.mem_of_mem_take (sortW_mem.1 h)))) s1 (sortW_srt _)
        rw [show D ++ blk bs N T = D ++ sortW (T.take bs) ++ sortW ((T.drop bs).take bs) ++ blk bs N (T.drop (2 * bs)) by rw [e1, e2]; simp only [List.append_assoc]]
        have hc2 : ((2 * bs + a : Nat) : Int) + ((2 * bs : Nat) : Int) = ((2 * bs + (2 * bs + a) : Nat) : Int) := by omega
        (repeat' (first | (apply run_qg 1; (focus rfl); (focus exact wt); (focus rfl); (focus (exact qg1))) | (apply run_qg 4; (focus rfl); (focus exact wt); (focus rfl); (focus (first | exact qg4 | exact qs4))) | refine cod_seq ?_ | refine cod_region ?_ | refine run_nil ?_ | refine pst_then ?_ | (apply cod_cond_t; (focus rfl)) | refine cod_block ?_ | refine cod_skip ?_))
        rw [hab]
        refine run_os wt rfl (opr_call_l rfl SY rfl (Lp.out pka (Lp.view (KB_x kb) Lp.nil (view_kb pka)))) ?_
        rintro _ _ ⟨_, ⟨rfl, rfl⟩, rfl⟩
        dsimp only [List.cons_append, List.nil_append]
        rw [sortW_app, two_take]
        (repeat' (first | (apply run_qg 1; (focus rfl); (focus exact wt); (focus rfl); (focus (exact qg1))) | (apply run_qg 4; (focus rfl); (focus exact wt); (focus rfl); (focus (first | exact qg4 | exact qs4))) | refine cod_seq ?_ | refine cod_region ?_ | refine run_nil ?_ | refine pst_then ?_ | refine pst_block ?_))
        rw [h2b, hc2]
        refine pst_again ((D ++ sortW (T.take (2 * bs)), T.drop (2 * bs), 2 * bs + a)) ?_ (FSub.of (by (try dsimp only); exact fsa)) (by (try dsimp only); exact hsa) ?_
        · refine ⟨⟨⟨?_, ?_⟩, by dsimp only; omega⟩, fun x hx => hwT x (List.mem_of_mem_drop hx)⟩
          · rw [← hD, e3, List.append_assoc]
          · dsimp only; rw [List.length_append, sortW_len, List.length_take]; omega
        · dsimp only; omega
      · have hfin : D ++ sortW T = blk (2 * bs) N l := by rw [← hD, blk_small (by omega)]
        by_cases hm : a + bs < N
        · have ht1 : (T.take bs).length = bs := by rw [List.length_take]; omega
          have ht2 : (T.drop bs).length = T.length - bs := List.length_drop
          have e1 := blk_step (bs := bs) (N := N) (by omega) (l := T) (by omega) hN0
          rw [blk_small (l := T.drop bs) (by omega)] at e1
          have SY := sym_any (2 * bs) q c kb D (sortW (T.take bs)) (sortW (T.drop bs)) [] a (a + bs) N N hDl (by rw [sortW_len]; omega) (by rw [sortW_len]; omega) (by rw [sortW_len]; omega) (by rw [sortW_len]; omega) (by rw [sortW_len, sortW_len]; omega) (by simp only [List.length_append, sortW_len, List.length_nil]; omega) hNb (fun x hx => by
            rcases List.mem_append.1 hx with h | h
            · exact hwT x (List.mem_of_mem_take (sortW_mem.1 h))
            · exact hwT x (List.mem_of_mem_drop (sortW_mem.1 h))) s1 (sortW_srt _)
          rw [show D ++ blk bs N T = D ++ sortW (T.take bs) ++ sortW (T.drop bs) ++ [] by rw [e1, List.append_nil, List.append_assoc]]
          (repeat' (first | (apply run_qg 1; (focus rfl); (focus exact wt); (focus rfl); (focus (exact qg1))) | (apply run_qg 4; (focus rfl); (focus exact wt); (focus rfl); (focus (first | exact qg4 | exact qs4))) | refine cod_seq ?_ | refine cod_region ?_ | refine run_nil ?_ | refine pst_then ?_ | (apply cod_cond_t; (focus rfl)) | (apply cod_cond_f; (focus rfl)) | refine cod_exit ?_ | refine pst_block_here ?_ | refine pst_then_exit ?_))
          rw [hab]
          refine run_os wt rfl (opr_call_l rfl SY rfl (Lp.out pka (Lp.view (KB_x kb) Lp.nil (view_kb pka)))) ?_
          rintro _ _ ⟨_, ⟨rfl, rfl⟩, rfl⟩
          dsimp only [List.cons_append, List.nil_append]
          rw [sortW_app, List.take_append_drop, List.append_nil, hfin]
          (repeat' (first | (apply run_qg 1; (focus rfl); (focus exact wt); (focus rfl); (focus (exact qg1))) | (apply run_qg 4; (focus rfl); (focus exact wt); (focus rfl); (focus (first | exact qg4 | exact qs4))) | refine cod_region ?_ | refine run_nil ?_ | refine pst_then ?_ | refine pst_block ?_))
          rw [h2b']
          refine pst_again ((2 * bs, (a : Int), ((2 * bs + a : Nat) : Int))) ?_ (FSub.of (by (try dsimp only); exact fsa)) (by (try dsimp only); exact hsa) ?_
          · dsimp only; omega
          · dsimp only; omega
        · rw [blk_small (l := T) (by omega), hfin]
          (repeat' (first | (apply run_qg 1; (focus rfl); (focus exact wt); (focus rfl); (focus (exact qg1))) | (apply run_qg 4; (focus rfl); (focus exact wt); (focus rfl); (focus (first | exact qg4 | exact qs4))) | refine cod_seq ?_ | refine cod_region ?_ | refine run_nil ?_ | refine pst_then ?_ | (apply cod_cond_f; (focus rfl)) | refine cod_exit ?_ | refine cod_skip ?_ | refine pst_block_here ?_ | refine pst_then_exit ?_ | refine pst_block ?_))
          rw [h2b']
          refine pst_again ((2 * bs, (a : Int), ((2 * bs + a : Nat) : Int))) ?_ (FSub.of (by (try dsimp only); exact fsa)) (by (try dsimp only); exact hsa) ?_
          · dsimp only; omega
          · dsimp only; omega
    · rw [blk_small (l := l) (by omega)]
      (repeat' (first | (apply run_qg 1; (focus rfl); (focus exact wt); (focus rfl); (focus (exact qg1))) | (apply run_qg 4; (focus rfl); (focus exact wt); (focus rfl); (focus (first | exact qg4 | exact qs4))) | refine cod_seq ?_ | refine cod_region ?_ | refine run_nil ?_ | refine pst_then ?_ | (apply cod_cond_f; (focus rfl)) | refine cod_exit ?_ | refine pst_block_here ?_ | refine pst_then_exit ?_))
      exact pst_fin_end rfl (by exact resa) _ (⟨rfl, rfl⟩) (by exact hsa)
set_option maxRecDepth 100000 in
set_option maxHeartbeats 8000000 in
theorem sort_any (q : Option Addr) (c kb : Nat) (l : List CV) (N : Nat) (hN : l.length = N) (hN0 : 0 < N) (hNb : N ≤ 1000000000) (hw : ∀ x ∈ l, 0 ≤ x.1 ∧ x.1 ≤ 1000000000000) :
    Ct Try.prog 20 [.slice q N c, cmpV kb] [own (.slice q N c) 44 2 N (flat fC l), KB kb]
      fun v H' => v = .tuple #[] ∧ H' = [own (.slice q N c) 44 2 N (flat fC (sortW l))] := by
  have ST := stable_any q c kb l N hN hN0 hNb hw
  (refine spec_enter Try.func20 Try.ntmps20 rfl rfl fun Fr => ?_; dsimp only [List.cons_append, List.nil_append, ini, Nat.reduceAdd])
  (repeat' (first | (apply run_qg 1; (focus rfl); (focus exact wt); (focus rfl); (focus (exact qg1))) | (apply run_qg 6; (focus rfl); (focus exact wt); (focus rfl); (focus (first | exact qs6 | exact qg6 | exact q_max rfl rfl rfl | exact q_sliceData rfl rfl (by omega) | exact q_sliceDataN rfl rfl | exact q_unsafeStringN rfl rfl rfl | exact q_cap_slice rfl rfl))) | refine cod_region ?_))
  refine run_os wt rfl (opr_call_l rfl ST rfl (Lp.out pka (Lp.view (KB_x kb) Lp.nil (view_kb pka)))) ?_
  rintro _ _ ⟨_, ⟨rfl, rfl⟩, rfl⟩
  dsimp only [List.cons_append, List.nil_append]
  (repeat' (first | refine run_nil ?_))
  exact pst_fin_end rfl (by exact resa) _ (⟨rfl, rfl⟩) (by exact hsa)
end Go.Proofs.Ytppnaofebkpbkaa.hsort
