/-
  pick.Order: the walk.
-/
import Derived.Test.YtkkgmgffkjeklaaPickHeap
namespace Go.Proofs.Ytkkgmgffkjeklaa.pick
open Go.RowKit kit sl
set_option linter.unusedVariables false
def quF : List Int → List Int → Nat → List One
  | x :: l, a :: g, i => (if 0 < x then [((i : Int), x, a)] else []) ++ quF l g (i + 1)
  | _, _, _ => []
theorem quF_nil (g : List Int) (i : Nat) : quF [] g i = [] := by cases g <;> rfl
theorem quF_step {l g : List Int} {i : Nat} {x a : Int} (hx : l[i]? = some x) (ha : g[i]? = some a) : quF (l.drop i) (g.drop i) i = (if 0 < x then [((i : Int), x, a)] else []) ++ quF (l.drop (i + 1)) (g.drop (i + 1)) (i + 1) := by
  obtain ⟨h1, e1⟩ := List.getElem?_eq_some_iff.1 hx
  obtain ⟨h2, e2⟩ := List.getElem?_eq_some_iff.1 ha
  rw [List.drop_eq_getElem_cons h1, List.drop_eq_getElem_cons h2, e1, e2, quF]
def BadP (live ages : List Int) : Prop := live.length ≠ ages.length ∨ 128 < live.length ∨ ∃ (i : Nat) (x a : Int), live[i]? = some x ∧ ages[i]? = some a ∧ (x < 0 ∨ 1000 < x ∨ a < 0 ∨ 2147483647 < a)
def OrderR (live ages : List Int) (v : Value) (H' : List Ent) : Prop :=
  (∃ (os : List One) (q : Option Addr) (c : Nat), ¬ BadP live ages ∧ os.Perm (quF live ages 0) ∧ os.Pairwise (fun a b => better b a = false) ∧ (∀ a ∈ os, okO a) ∧ v = .tuple #[.slice q os.length c, .int .i64 0] ∧ H' = [own (.slice q os.length c) 3 1 os.length (flat fI (os.map (·.1)))]) ∨
  BadP live ages ∧ ∃ e : Int, e ≠ 0 ∧ v = .tuple #[.slice none 0 0, .int .i64 e] ∧ H' = []
instance {live ages : List Int} : Xcl (OrderR live ages) := by unfold OrderR; infer_instance
attribute [local irreducible] box own sl old bptr eptr Qt Opr Run Cod Pst Drn
set_option maxRecDepth 100000 in
set_option maxHeartbeats 8000000 in
theorem order_any (qa qb : Option Addr) (ca cb : Nat) (live ages : List Int) (h1 : live.length ≤ maxLen) (h2 : ages.length ≤ maxLen) :
    Ct Try.prog 10 [.slice qa live.length ca, .slice qb ages.length cb] [sl 1 (.slice qa live.length ca) (live.map fI), sl 1 (.slice qb ages.length cb) (ages.map fI)] (OrderR live ages) := by
  unfold maxLen at h1 h2
  have hone : ∀ y, ∀ u ∈ fO y, u.oneCell' = true := one_fO
  by_cases hlen : live.length = ages.length
  · by_cases h128 : 128 < live.length
    · (refine spec_enter Try.func10 Try.ntmps10 rfl rfl fun Fr => ?_; dsimp only [List.cons_append, List.nil_append, ini, Nat.reduceAdd])
      (repeat' (first | (apply run_qg 1; (focus rfl); (focus exact wt); (focus rfl); (focus (exact qg1))) | (apply run_qg 4; (focus rfl); (focus exact wt); (focus rfl); (focus (first | exact qg4 | exact qs4))) | (apply run_qg 6; (focus rfl); (focus exact wt); (focus rfl); (focus (first | exact qs6 | exact qg6 | exact q_max rfl rfl rfl | exact q_sliceData rfl rfl (by omega) | exact q_sliceDataN rfl rfl | exact q_unsafeStringN rfl rfl rfl | exact q_cap_slice rfl rfl))) | refine cod_seq ?_ | refine cod_region ?_ | refine run_nil ?_ | refine pst_then ?_ | (apply cod_cond_t; (focus rfl)) | (apply cod_cond_f; (focus rfl)) | refine cod_ret ?_ | refine cod_skip ?_ | refine pst_then_ret ?_))
      exact pst_fin rfl (by exact resa) _ (.inr ⟨.inr (.inl h128), 2, by decide, rfl, rfl⟩) (by exact hsa)
    · obtain ⟨Q0, hQ0⟩ : ∃ Q0, quF live ages 0 = Q0 := ⟨_, rfl⟩
      unfold OrderR
      rw [hQ0]
      (refine spec_enter Try.func10 Try.ntmps10 rfl rfl fun Fr => ?_; dsimp only [List.cons_append, List.nil_append, ini, Nat.reduceAdd])
      (repeat' (first | (apply run_qg 1; (focus rfl); (focus exact wt); (focus rfl); (focus (exact qg1))) | (apply run_qg 4; (focus rfl); (focus exact wt); (focus rfl); (focus (first | exact qg4 | exact qs4))) | (apply run_qg 6; (focus rfl); (focus exact wt); (focus rfl); (focus (first | exact qs6 | exact qg6 | exact q_max rfl rfl rfl | exact q_sliceData rfl rfl (by omega) | exact q_sliceDataN rfl rfl | exact q_unsafeStringN rfl rfl rfl | exact q_cap_slice rfl rfl))) | refine cod_seq ?_ | refine cod_region ?_ | refine run_nil ?_ | refine pst_then ?_ | (apply cod_cond_f; (focus rfl)) | refine cod_block ?_ | refine cod_skip ?_ | (apply run_osg 8; (focus rfl); (focus exact wt); (focus rfl); (focus (exact opr_new rfl)); (rintro _ _ ⟨b, rfl, rfl⟩))))
      refine cod_heap (heap_nil _ 82 3) ?_
      (refine cod_loop_rw (σ := Nat × Option Addr × Nat × List One) (fun x => ((x.1 ≤ live.length ∧ x.2.2.2.length ≤ x.1) ∧ ∀ (j : Nat) (u a : Int), j < x.1 → live[j]? = some u → ages[j]? = some a → 0 ≤ u ∧ u ≤ 1000 ∧ 0 ≤ a ∧ a ≤ 2147483647) ∧ Q0 = x.2.2.2 ++ quF (live.drop x.1) (ages.drop x.1) x.1 ∧ ∀ a ∈ x.2.2.2, okO a) (fun x => [(20, .int .i64 (x.1 : Int))]) (fun x => [box b [.slice x.2.1 x.2.2.2.length x.2.2.1] 80, own (.slice x.2.1 x.2.2.2.length x.2.2.1) 82 3 x.2.2.2.length (flat fO x.2.2.2)]) _ (fun x => live.length - x.1) ((0, none, 0, [])) (by exact ⟨⟨⟨Nat.zero_le _, Nat.le_refl _⟩, fun j u a h => absurd h (Nat.not_lt_zero _)⟩, hQ0.symm, fun a ha => absurd ha List.not_mem_nil⟩) (by exact fsa) (by (first | exact HSub.of_picks_rest (by exact pca))) (fun ⟨i, q1, c1, l⟩ ⟨⟨⟨hi, hli⟩, hval⟩, hq, hok⟩ => ?_); dsimp only [List.cons_append, List.nil_append])
      dsimp only at hi hli hval hq hok ⊢
      rcases Nat.lt_or_ge i live.length with hlt | hge
      · obtain ⟨x, hx⟩ : ∃ x, live[i]? = some x := ⟨_, List.getElem?_eq_getElem hlt⟩
        obtain ⟨a, ha⟩ : ∃ x, ages[i]? = some x := ⟨_, List.getElem?_eq_getElem (by omega)⟩
        rw [quF_step hx ha] at hq
        by_cases hbad : x < 0 ∨ 1000 < x ∨ a < 0 ∨ 2147483647 < a
        · (repeat' (first | (apply run_qg 1; (focus rfl); (focus exact wt); (focus rfl); (focus (exact qg1))) | (apply run_qg 2; (focus rfl); (focus exact wt); (focus rfl); (focus (first | exact qg2 | exact qs2))) | (apply run_qg 3; (focus rfl); (focus exact wt); (focus rfl); (focus (first | exact qg3 | exact qs3))) | (apply run_qg 4; (focus rfl); (focus exact wt); (focus rfl); (focus (first | exact qg4 | exact qs4))) | refine cod_seq ?_ | refine cod_region ?_ | refine run_nil ?_ | refine pst_then ?_ | (apply cod_cond_t; (focus rfl)) | refine cod_block ?_ | refine cod_ret ?_ | refine cod_skip ?_ | refine pst_block_ret ?_ | refine pst_then_ret ?_ | (apply run_offs; (focus rfl); (focus rfl); (focus rfl)) | ((first | (apply run_lss; (rotate_left 2); (focus rfl)) | (apply run_leq; (rotate_left 2); (focus rfl)) | (apply run_gtr; (rotate_left 2); (focus rfl)) | (apply run_geq; (rotate_left 2); (focus rfl)) | (apply run_eql; (rotate_left 2); (focus rfl)) | (apply run_neq; (rotate_left 2); (focus rfl)) | (apply run_seq; (rotate_left 2); (focus rfl)) | (apply run_sneq; (rotate_left 2); (focus rfl))); (focus rfl); (focus rfl); (rotate_right 2); (focus exact wt); (focus rfl); (all_goals (intro h; dsimp only [upd])))))
          all_goals first | (exfalso; omega) | exact pst_fin rfl (by exact resa) _ (.inr ⟨.inr (.inr ⟨i, x, a, hx, ha, hbad⟩), 1, by decide, rfl, rfl⟩) (by exact hsa)
        · have hval2 : ∀ (j : Nat) (u a : Int), j < i + 1 → live[j]? = some u → ages[j]? = some a → 0 ≤ u ∧ u ≤ 1000 ∧ 0 ≤ a ∧ a ≤ 2147483647 := fun j u v hj hu hv => by
            rcases (by omega : j < i ∨ j = i) with h | rfl
            · exact hval j u v h hu hv
            · rw [hx] at hu
              rw [ha] at hv
              cases hu
              cases hv
              omega
          by_cases hx0 : 0 < x
          · rw [if_pos hx0, ← List.append_assoc] at hq
            (repeat' (first | (apply run_qg 1; (focus rfl); (focus exact wt); (focus rfl); (focus (exact qg1))) | (apply run_qg 2; (focus rfl); (focus exact wt); (focus rfl); (focus (first | exact qg2 | exact qs2))) | (apply run_qg 3; (focus rfl); (focus exact wt); (focus rfl); (focus (first | exact qg3 | exact qs3))) | (apply run_qg 4; (focus rfl); (focus exact wt); (focus rfl); (focus (first | exact qg4 | exact qs4))) | refine cod_seq ?_ | refine cod_region ?_ | refine run_nil ?_ | refine pst_then ?_ | (apply cod_cond_t; (focus rfl)) | (apply cod_cond_f; (focus rfl)) | refine cod_block ?_ | refine cod_skip ?_))
            (refine cod_drawn_ks (Hq := [_, _]) [0, 3] [10] rfl (by kernel_rfl) (by simp only [List.length_cons, List.length_nil, Nat.reduceAdd]; rfl) ?_)
            (repeat' (first | (apply drnK_take 1; (focus rfl); (focus rfl); (focus exact wt); (focus (decide +kernel)); (focus exact hsq); (focus rfl); (focus (exact qg1))) | (apply drnK_take 2; (focus rfl); (focus rfl); (focus exact wt); (focus (decide +kernel)); (focus exact hsq); (focus rfl); (focus (first | exact qg2 | exact qs2))) | (apply drnK_take 3; (focus rfl); (focus rfl); (focus exact wt); (focus (decide +kernel)); (focus exact hsq); (focus rfl); (focus (first | exact qg3 | exact qs3))) | (apply drnK_take 5; (focus rfl); (focus rfl); (focus exact wt); (focus (decide +kernel)); (focus exact hsq); (focus rfl); (focus (exact qg5))) | (apply drnK_done; (focus (decide +kernel))) | (apply drnK_skip; (focus rfl)) | (apply drnK_wrap; (focus rfl))))
            (refine drnK_at 8 ?_; (first | refine drnK_ones _ (by rfl) (by rfl) (by kernel_rfl) wt (by rfl) (by exact opr_buildSlice rfl rfl rfl (by exact blda) rfl rfl (by decide) rfl) ?_ | refine drnK_onen _ (by rfl) (by rfl) (by kernel_rfl) wt (by exact opr_buildSlice rfl rfl rfl (by exact blda) rfl rfl (by decide) rfl) ?_); rintro _ _ ⟨q9, rfl, rfl⟩; refine ⟨(by first | exact fun h => absurd h (by decide) | exact fun _ => hsq), ?_⟩; (try dsimp only [List.cons_append, List.nil_append]))
            (refine drnK_at 9 ?_; (first | refine drnK_ones _ (by rfl) (by rfl) (by kernel_rfl) wt (by rfl) (by exact (by first | exact opr_append_lit0 (fO) [((i : Int), x, a)] rfl rfl rfl (by exact pka) (by rfl) (by rfl) (by intro _; rfl) (by (first | exact one_fS | exact one_fI | exact one_fB | exact one_fP | exact one_fIIS | exact one_fIIIS | exact one_fII | exact one_fSI | exact one_fIIU | exact one_fY | exact one_fBl | exact one_fT | exact one_fE | assumption)) rfl (by simp only [List.length_cons, List.length_nil]; omega) (by (unfold maxLen); simp only [List.length_cons, List.length_nil]; omega) | exact opr_append_lit (fO) [((i : Int), x, a)] rfl rfl rfl (by exact pka) (by exact pka) (by rfl) (by rfl) (by first | rfl | omega) (by intro _; rfl) (by (first | exact one_fS | exact one_fI | exact one_fB | exact one_fP | exact one_fIIS | exact one_fIIIS | exact one_fII | exact one_fSI | exact one_fIIU | exact one_fY | exact one_fBl | exact one_fT | exact one_fE | assumption)) rfl (by simp only [List.length_cons, List.length_nil]; omega) (by (unfold maxLen); simp only [List.length_cons, List.length_nil]; omega))) ?_ | refine drnK_onen _ (by rfl) (by rfl) (by kernel_rfl) wt (by exact (by first | exact opr_append_lit0 (fO) [((i : Int), x, a)] rfl rfl rfl (by exact pka) (by rfl) (by rfl) (by intro _; rfl) (by (first | exact one_fS | exact one_fI | exact one_fB | exact one_fP | exact one_fIIS | exact one_fIIIS | exact one_fII | exact one_fSI | exact one_fIIU | exact one_fY | exact one_fBl | exact one_fT | exact one_fE | assumption)) rfl (by simp only [List.length_cons, List.length_nil]; omega) (by (unfold maxLen); simp only [List.length_cons, List.length_nil]; omega) | exact opr_append_lit (fO) [((i : Int), x, a)] rfl rfl rfl (by exact pka) (by exact pka) (by rfl) (by rfl) (by first | rfl | omega) (by intro _; rfl) (by (first | exact one_fS | exact one_fI | exact one_fB | exact one_fP | exact one_fIIS | exact one_fIIIS | exact one_fII | exact one_fSI | exact one_fIIU | exact one_fY | exact one_fBl | exact one_fT | exact one_fE | assumption)) rfl (by simp only [List.length_cons, List.length_nil]; omega) (by (unfold maxLen); simp only [List.length_cons, List.length_nil]; omega))) ?_); rintro _ _ ⟨q4, c4, rfl, rfl⟩; refine ⟨(by first | exact fun h => absurd h (by decide) | exact fun _ => hsq), ?_⟩; (try dsimp only [List.cons_append, List.nil_append]))
            (repeat' (first | (apply run_qg 1; (focus rfl); (focus exact wt); (focus rfl); (focus (exact qg1))) | (apply run_qg 4; (focus rfl); (focus exact wt); (focus rfl); (focus (first | exact qg4 | exact qs4))) | refine cod_region ?_ | refine run_nil ?_ | refine pst_then ?_ | refine pst_block ?_ | (apply drnK_onen 9; (focus rfl); (focus rfl); (focus (decide +kernel)); (focus exact wt); (focus (exact opr_store_box_one rfl rfl rfl rfl (by exact pka) rfl (by exact seta))); (rintro _ _ ⟨rfl, rfl⟩; refine ⟨(by first | exact fun h => absurd h (by decide) | exact fun _ => hsq), ?_⟩)) | (apply drnK_end; (focus (decide +kernel)))))
            refine pst_again ((i + 1, q4, c4, l ++ [((i : Int), x, a)])) ?_ (FSub.of (by (try dsimp only); exact fsa)) (by (try dsimp only); exact hsa) ?_
            · refine ⟨⟨⟨hlt, by dsimp only; rw [List.length_append, List.length_singleton]; omega⟩, hval2⟩, hq, fun z hz => ?_⟩
              rcases List.mem_append.1 hz with hz | hz
              · exact hok z hz
              · rw [List.mem_singleton.1 hz]
                exact ⟨by dsimp only; omega, by dsimp only; omega, by dsimp only; omega, by dsimp only; omega⟩
            · dsimp only; omega
          · rw [if_neg hx0, List.nil_append] at hq
            (repeat' (first | (apply run_qg 1; (focus rfl); (focus exact wt); (focus rfl); (focus (exact qg1))) | (apply run_qg 2; (focus rfl); (focus exact wt); (focus rfl); (focus (first | exact qg2 | exact qs2))) | (apply run_qg 3; (focus rfl); (focus exact wt); (focus rfl); (focus (first | exact qg3 | exact qs3))) | (apply run_qg 4; (focus rfl); (focus exact wt); (focus rfl); (focus (first | exact qg4 | exact qs4))) | refine cod_seq ?_ | refine cod_region ?_ | refine run_nil ?_ | refine pst_then ?_ | (apply cod_cond_t; (focus rfl)) | (apply cod_cond_f; (focus rfl)) | refine cod_block ?_ | refine cod_skip ?_ | refine pst_block ?_))
            refine pst_again ((i + 1, q1, c1, l)) ?_ (FSub.of (by (try dsimp only); exact fsa)) (by (try dsimp only); exact hsa) ?_
            · exact ⟨⟨⟨hlt, by dsimp only; omega⟩, hval2⟩, hq, hok⟩
            · dsimp only; omega
      · have hil : i = live.length := by omega
        subst hil
        rw [List.drop_length, quF_nil, List.append_nil] at hq
        subst hq
        have hgood : ¬ BadP live ages := fun h => by
          rcases h with h | h | ⟨j, u, v, g1, g2, g3⟩
          · exact h hlen
          · exact h128 h
          · have := hval j u v (List.getElem?_eq_some_iff.1 g1).1 g1 g2
            omega
        have IN := init_any b q1 c1 Q0 hok (by omega)
        (repeat' (first | (apply run_qg 4; (focus rfl); (focus exact wt); (focus rfl); (focus (first | exact qg4 | exact qs4))) | refine cod_seq ?_ | refine cod_region ?_ | refine run_nil ?_ | refine pst_then ?_ | (apply cod_cond_f; (focus rfl)) | refine cod_exit ?_ | refine pst_block_here ?_ | refine pst_then_exit ?_))
        refine run_qs wt rfl (q_mkIface rfl rfl) ?_
        (refine run_os wt rfl (opr_call_l rfl (IN) rfl (by exact lpa)) ?_; rintro _ _ ⟨_, ⟨l2, ⟨hh, hp⟩, rfl, rfl⟩, rfl⟩; dsimp only [List.cons_append, List.nil_append])
        (repeat' (first | (apply run_qg 1; (focus rfl); (focus exact wt); (focus rfl); (focus (exact qg1))) | refine cod_seq ?_ | refine cod_region ?_ | refine run_nil ?_ | refine pst_then ?_ | refine cod_block ?_))
        rw [← hp.length_eq]
        refine cod_heap (heap_nil _ 3 1) ?_
        (refine cod_loop_rw (σ := List One × Option Addr × Nat × List One) (fun x => (HeapFrom x.1 x.1.length 0 ∧ (x.2.2.2 ++ x.1).Perm Q0) ∧ x.2.2.2.Pairwise (fun a b => better b a = false) ∧ ∀ a ∈ x.2.2.2, ∀ b ∈ x.1, better b a = false) (fun x => [(9, .slice x.2.1 x.2.2.2.length x.2.2.1)]) (fun x => [box b [.slice q1 x.1.length c1] 80, own (.slice q1 x.1.length c1) 82 3 x.1.length (flat fO x.1), own (.slice x.2.1 x.2.2.2.length x.2.2.1) 3 1 x.2.2.2.length (flat fI (x.2.2.2.map (·.1)))]) _ (fun x => x.1.length) ((l2, none, 0, [])) (by exact ⟨⟨by rw [hp.length_eq]; exact hh, hp⟩, List.Pairwise.nil, fun a ha => absurd ha List.not_mem_nil⟩) (by exact fsa) (by (first | exact HSub.of_picks_rest (by exact pca))) (fun ⟨l, qo, co, os⟩ ⟨⟨hheap, hperm⟩, hsort, hbest⟩ => ?_); dsimp only [List.cons_append, List.nil_append])
        dsimp only at hheap hperm hsort hbest ⊢
        have hmem : ∀ a ∈ os ++ l, okO a := fun a ha => hok a (hperm.mem_iff.1 ha)
        have hlen2 : os.length + l.length = Q0.length := by have := hperm.length_eq; rwa [List.length_append] at this
        have hml : (os.map (·.1)).length = os.length := List.length_map _
        cases hl : l with
        | nil =>
          subst hl
          rw [List.append_nil] at hperm
          have LN := len_any q1 0 c1
          (repeat' (first | (apply run_qg 1; (focus rfl); (focus exact wt); (focus rfl); (focus (exact qg1))) | (apply run_qg 2; (focus rfl); (focus exact wt); (focus rfl); (focus (first | exact qg2 | exact qs2))) | (apply run_qg 4; (focus rfl); (focus exact wt); (focus rfl); (focus (first | exact qg4 | exact qs4))) | refine cod_seq ?_ | refine cod_region ?_ | refine run_nil ?_ | refine pst_then ?_ | (apply cod_cond_f; (focus rfl)) | refine cod_exit ?_ | refine cod_ret ?_ | refine pst_block_here ?_ | refine pst_then_exit ?_ | (apply run_osg 7; (focus rfl); (focus exact wt); (focus rfl); (focus (exact opr_call_ls (by rfl) (LN ..) (by rfl) lpa)); (rintro _ _ ⟨rfl, rfl⟩))))
          exact pst_fin rfl (by exact resa) _ (.inl ⟨os, qo, co, hgood, hperm, hsort, fun a ha => hmem a (List.mem_append_left _ ha), rfl, rfl⟩) (by exact hsa)
        | cons z l' =>
          rw [← hl]
          obtain ⟨m, hm⟩ : ∃ m, l.length = m + 1 := ⟨l'.length, by rw [hl]; rfl⟩
          have LN := len_any q1 (m + 1) c1
          have HP := hpop_any b q1 c1 m l hm (fun a ha => hmem a (List.mem_append_right _ ha)) (by omega) (by rw [← hm]; exact hheap)
          rw [hm]
          clear hl
          (repeat' (first | (apply run_qg 1; (focus rfl); (focus exact wt); (focus rfl); (focus (exact qg1))) | (apply run_qg 2; (focus rfl); (focus exact wt); (focus rfl); (focus (first | exact qg2 | exact qs2))) | (apply run_qg 4; (focus rfl); (focus exact wt); (focus rfl); (focus (first | exact qg4 | exact qs4))) | refine cod_seq ?_ | refine cod_region ?_ | refine run_nil ?_ | refine pst_then ?_ | (apply cod_cond_t; (focus rfl)) | refine cod_block ?_ | refine cod_skip ?_ | (apply run_osg 7; (focus rfl); (focus exact wt); (focus rfl); (focus (exact opr_call_ls (by rfl) (LN ..) (by rfl) lpa)); (rintro _ _ ⟨rfl, rfl⟩))))
          refine run_qs wt rfl (q_mkIface rfl rfl) ?_
          (refine run_os wt rfl (opr_call_l rfl (HP) rfl (by exact lpa)) ?_; rintro _ _ ⟨_, ⟨x, l3, ⟨e1, e2, e3, e4⟩, rfl, rfl⟩, rfl⟩; dsimp only [List.cons_append, List.nil_append])
          refine run_qs wt rfl (q_tassert rfl rfl) ?_
          refine run_qs wt rfl (q_fieldv (off := 0) rfl (by kernel_rfl) rfl (rfl : (fO x)[0]? = some (.int .i64 x.1))) ?_
          (repeat' (first | (apply run_osg 10; (focus rfl); (focus exact wt); (focus rfl); (focus (exact opr_buildSlice rfl rfl rfl (by exact blda) rfl rfl (by decide) rfl)); (rintro _ _ ⟨q, rfl, rfl⟩))))
          refine run_os wt rfl (by first | exact opr_append_lit0 (fI) [x.1] rfl rfl rfl (by exact pka) (by rfl) (by rfl) (by intro _; rfl) (by (first | exact one_fS | exact one_fI | exact one_fB | exact one_fP | exact one_fIIS | exact one_fIIIS | exact one_fII | exact one_fSI | exact one_fIIU | exact one_fY | exact one_fBl | exact one_fT | exact one_fE | assumption)) rfl (by simp only [List.length_cons, List.length_nil]; omega) (by (unfold maxLen); simp only [List.length_cons, List.length_nil]; omega) | exact opr_append_lit (fI) [x.1] rfl rfl rfl (by exact pka) (by exact pka) (by rfl) (by rfl) (by first | rfl | omega) (by intro _; rfl) (by (first | exact one_fS | exact one_fI | exact one_fB | exact one_fP | exact one_fIIS | exact one_fIIIS | exact one_fII | exact one_fSI | exact one_fIIU | exact one_fY | exact one_fBl | exact one_fT | exact one_fE | assumption)) rfl (by simp only [List.length_cons, List.length_nil]; omega) (by (unfold maxLen); simp only [List.length_cons, List.length_nil]; omega)) ?_
          rintro _ _ ⟨q5, c5, rfl, rfl⟩
          have em : os.map (·.1) ++ [x.1] = (os ++ [x]).map (·.1) := by simp
          rw [em, List.length_map]
          subst e1
          (repeat' (first | (apply run_qg 1; (focus rfl); (focus exact wt); (focus rfl); (focus (exact qg1))) | refine run_nil ?_ | refine pst_block ?_))
          refine pst_again ((l3, q5, c5, os ++ [x])) ?_ (FSub.of (by (try dsimp only); exact fsa)) (by (try dsimp only); exact hsa) ?_
          · refine ⟨⟨e2, ?_⟩, ?_, ?_⟩
            · dsimp only
              rw [List.append_assoc]
              exact (List.Perm.append_left os e3.symm).trans hperm
            · refine List.pairwise_append.2 ⟨hsort, List.pairwise_singleton _ _, fun a ha b hb => ?_⟩
              rw [List.mem_singleton.1 hb]
              exact hbest a ha x (e3.mem_iff.2 List.mem_cons_self)
            · intro a ha b hb
              rcases List.mem_append.1 ha with ha | ha
              · exact hbest a ha b (e3.mem_iff.2 (List.mem_cons_of_mem _ hb))
              · rw [List.mem_singleton.1 ha]
                exact e4 b hb
          · dsimp only; omega
  · (refine spec_enter Try.func10 Try.ntmps10 rfl rfl fun Fr => ?_; dsimp only [List.cons_append, List.nil_append, ini, Nat.reduceAdd])
    (repeat' (first | (apply run_qg 1; (focus rfl); (focus exact wt); (focus rfl); (focus (exact qg1))) | (apply run_qg 4; (focus rfl); (focus exact wt); (focus rfl); (focus (first | exact qg4 | exact qs4))) | (apply run_qg 6; (focus rfl); (focus exact wt); (focus rfl); (focus (first | exact qs6 | exact qg6 | exact q_max rfl rfl rfl | exact q_sliceData rfl rfl (by omega) | exact q_sliceDataN rfl rfl | exact q_unsafeStringN rfl rfl rfl | exact q_cap_slice rfl rfl))) | refine cod_seq ?_ | refine cod_region ?_ | refine run_nil ?_ | refine pst_then ?_ | (apply cod_cond_t; (focus rfl)) | refine cod_ret ?_ | refine pst_then_ret ?_))
    exact pst_fin rfl (by exact resa) _ (.inr ⟨.inl hlen, 1, by decide, rfl, rfl⟩) (by exact hsa)
end Go.Proofs.Ytkkgmgffkjeklaa.pick
