/-
  CodeCuts: the walk.
-/
import Derived.Test.YtkepmofjenbefaaCodeRead
import Derived.Test.YtkepmofjenbefaaIntsCat
import Derived.Test.YtkepmofjenbefaaWithin
import Derived.Test.YtkepmofjenbefaaOpen2
namespace Go.Proofs.Ytkepmofjenbefaa.lawCodeCuts
open Go.RowKit kit sl Go.Proofs.Ytkepmofjenbefaa.code Go.Proofs.Ytkepmofjenbefaa.within Go.Proofs.Ytkepmofjenbefaa.ints Go.Proofs.Ytkepmofjenbefaa.lens
set_option linter.unusedVariables false
theorem within_ct (k n : Int) (h1 : 1 ≤ n) (h2 : n ≤ 9223372036854775807) : Ct Try.prog 17 [.int .i64 k, .int .i64 n] [] fun v H' => v = .int .i64 (withinF k n) ∧ H' = [] :=
  ct_of_calls fun W _ => (within_any k n h1 h2 W).mono fun e w' ⟨h1, h2⟩ => ⟨h1, by rw [h2]; exact Below.refl _ _⟩
theorem readF_acc (l : List Int) (s : List UInt8) : ∀ (n k : Nat) (out : List Int), readF l s n k out = if (readF l s n k []).2.2 = 0 then (out ++ (readF l s n k []).1, (readF l s n k []).2.1, 0) else ([], 0, (readF l s n k []).2.2) := by
  intro n
  induction n with
  | zero => intro k out; simp [readF]
  | succ n ih =>
    intro k out
    rw [readF, readF]
    by_cases h : (one l s k).2.2 = 0
    · rw [if_pos h, if_pos h, ih _ (out ++ _), ih _ ([] ++ _)]
      by_cases h2 : (readF l s n (one l s k).2.1 []).2.2 = 0
      · rw [if_pos h2, if_pos h2]; simp
      · rw [if_neg h2, if_neg h2, if_neg h2]
    · rw [if_neg h, if_neg h, if_neg h]
theorem readF_add (l : List Int) (s : List UInt8) (m : Nat) : ∀ (n k : Nat) (out a : List Int) (k2 : Nat), readF l s n k out = (a, k2, 0) → readF l s (n + m) k out = readF l s m k2 a := by
  intro n
  induction n with
  | zero =>
    intro k out a k2 h
    rw [readF] at h
    cases h
    rw [Nat.zero_add]
  | succ n ih =>
    intro k out a k2 h
    rw [readF] at h
    rw [show n + 1 + m = (n + m) + 1 by omega, readF]
    split at h
    · rename_i h1
      rw [if_pos h1]
      exact ih _ _ _ _ h
    · rename_i h1
      have h9 := congrArg (fun r => r.2.2) h
      exact absurd h9 h1
theorem readF_bad (l : List Int) (s : List UInt8) (m : Nat) : ∀ (n k : Nat) (out : List Int) (e : Int), (readF l s n k out).2.2 = e → e ≠ 0 → readF l s (n + m) k out = ([], 0, e) := by
  intro n
  induction n with
  | zero =>
    intro k out e h he
    rw [readF] at h
    exact absurd h.symm he
  | succ n ih =>
    intro k out e h he
    rw [readF] at h
    rw [show n + 1 + m = (n + m) + 1 by omega, readF]
    split at h
    · rename_i h1
      rw [if_pos h1]
      exact ih _ _ _ h he
    · rename_i h1
      rw [if_neg h1]
      have h2 : (one l s k).2.2 = e := h
      rw [h2]
theorem readF_at (l : List Int) (s : List UInt8) : ∀ (n k : Nat) (out : List Int), k ≤ 8 * s.length → (readF l s n k out).2.1 ≤ 8 * s.length := by
  intro n
  induction n with
  | zero => intro k out h; exact h
  | succ n ih =>
    intro k out h
    rw [readF]
    split
    · rename_i h1
      exact ih _ _ (oneF_at 16 0 0 k h h1).2
    · exact Nat.zero_le _
theorem readF_len (l : List Int) (s : List UInt8) : ∀ (n k : Nat) (out : List Int), (readF l s n k out).1.length ≤ out.length + n := by
  intro n
  induction n with
  | zero => intro k out; exact Nat.le_refl _
  | succ n ih =>
    intro k out
    rw [readF]
    split
    · have := ih (one l s k).2.1 (out ++ [(one l s k).1])
      rw [List.length_append, List.length_singleton] at this
      omega
    · exact Nat.zero_le _
theorem readV_len (l : List Int) (s : List UInt8) (k n : Nat) : (readV l s k n).1.length ≤ n := by
  unfold readV
  split
  · have := readF_len l s n k []
    simpa using this
  · exact Nat.zero_le _
/-- reading in two parts -/
theorem read_cuts (l : List Int) (s : List UInt8) (n m : Nat) :
    ((readV l s 0 n).2.2 ≠ 0 → readV l s 0 (n + m) = ([], 0, (readV l s 0 n).2.2)) ∧
    ((readV l s 0 n).2.2 = 0 → (readV l s (readV l s 0 n).2.1 m).2.2 ≠ 0 → readV l s 0 (n + m) = ([], 0, (readV l s (readV l s 0 n).2.1 m).2.2)) ∧
    ((readV l s 0 n).2.2 = 0 → (readV l s (readV l s 0 n).2.1 m).2.2 = 0 → readV l s 0 (n + m) = ((readV l s 0 n).1 ++ (readV l s (readV l s 0 n).2.1 m).1, (readV l s (readV l s 0 n).2.1 m).2.1, 0)) := by
  unfold readV
  by_cases hc : canonE l = 0
  · rw [if_pos hc, if_pos hc, if_pos hc]
    refine ⟨fun h => readF_bad l s m n 0 [] _ rfl h, fun h1 h2 => ?_, fun h1 h2 => ?_⟩
    · have h3 := readF_add l s m n 0 [] _ _ (Prod.ext rfl (Prod.ext rfl h1))
      rw [h3, readF_acc, if_neg h2]
    · have h3 := readF_add l s m n 0 [] _ _ (Prod.ext rfl (Prod.ext rfl h1))
      rw [h3, readF_acc, if_pos h2]
  · rw [if_neg hc, if_neg hc, if_neg hc]
    have hc2 : ¬ ((canonE l : Int) = 0) := by omega
    refine ⟨fun _ => rfl, fun h => absurd h hc2, fun h => absurd h hc2⟩
theorem way0 : readV [1, 1] [2] 0 2 = ([0, 1], 2, 0) := by decide +kernel
attribute [local irreducible] box own sl old bptr eptr Qt Opr Run Cod Pst Drn
set_option maxRecDepth 100000 in
set_option maxHeartbeats 8000000 in
theorem equal_I (qa qb : Option Addr) (ca cb : Nat) (xs ys : List (Int)) (hn : xs.length ≤ maxLen) (hm : ys.length ≤ maxLen) :
    Ct Try.prog 16 [.slice qa xs.length ca, .slice qb ys.length cb] [sl 1 (.slice qa xs.length ca) (xs.map fI), sl 1 (.slice qb ys.length cb) (ys.map fI)] fun v H' => v = .bool (decide (xs = ys)) ∧ H' = [] := by
  unfold maxLen at hn hm
  by_cases hl : xs.length = ys.length
  · (refine spec_enter Try.func16 Try.ntmps16 rfl rfl fun Fr => ?_; dsimp only [List.cons_append, List.nil_append, ini, Nat.reduceAdd])
    (repeat' (first | (apply run_qg 1; (focus rfl); (focus exact wt); (focus rfl); (focus (exact qg1))) | (apply run_qg 4; (focus rfl); (focus exact wt); (focus rfl); (focus (first | exact qg4 | exact qs4))) | (apply run_qg 6; (focus rfl); (focus exact wt); (focus rfl); (focus (first | exact qs6 | exact qg6 | exact q_max rfl rfl rfl | exact q_sliceData rfl rfl (by omega) | exact q_sliceDataN rfl rfl | exact q_unsafeStringN rfl rfl rfl | exact q_cap_slice rfl rfl))) | refine cod_seq ?_ | refine cod_region ?_ | refine run_nil ?_ | refine pst_then ?_ | (apply cod_cond_f; (focus rfl)) | refine cod_block ?_ | refine cod_skip ?_))
    (refine cod_loop_ro (σ := Nat) (fun k => k ≤ xs.length ∧ xs.take k = ys.take k) (fun k => [(13, .int .i64 (k : Int))]) (fun k => xs.length - k) (0) (by simp) (by exact fsa) (fun k ⟨hk, ht⟩ => ?_); dsimp only [List.cons_append, List.nil_append])
    rcases get_or xs k with ⟨x, hx, hlt⟩ | hge
    · obtain ⟨y, hy⟩ : ∃ y, ys[k]? = some y := ⟨_, List.getElem?_eq_getElem (by omega)⟩
      by_cases hxy : x = y
      · (repeat' (first | (apply run_qg 1; (focus rfl); (focus exact wt); (focus rfl); (focus (exact qg1))) | (apply run_qg 4; (focus rfl); (focus exact wt); (focus rfl); (focus (first | exact qg4 | exact qs4))) | refine cod_seq ?_ | refine cod_region ?_ | refine run_nil ?_ | refine pst_then ?_ | (apply cod_cond_t; (focus rfl)) | (apply cod_cond_f; (focus rfl)) | refine cod_block ?_ | refine cod_skip ?_ | refine pst_block ?_ | (apply cod_drawn_k; (focus kernel_rfl); (focus (simp only [List.length_cons, List.length_nil, Nat.reduceAdd]; rfl))) | (apply drnK_take 1; (focus rfl); (focus rfl); (focus exact wt); (focus (decide +kernel)); (focus exact hsq); (focus rfl); (focus (exact qg1))) | (apply drnK_take 2; (focus rfl); (focus rfl); (focus exact wt); (focus (decide +kernel)); (focus exact hsq); (focus rfl); (focus (first | exact qg2 | exact qs2))) | (apply drnK_take 3; (focus rfl); (focus rfl); (focus exact wt); (focus (decide +kernel)); (focus exact hsq); (focus rfl); (focus (first | exact qg3 | exact qs3))) | (apply drnK_take 4; (focus rfl); (focus rfl); (focus exact wt); (focus (decide +kernel)); (focus exact hsq); (focus rfl); (focus (first | exact qg4 | exact qs4))) | (apply drnK_end; (focus (decide +kernel)))))
        refine pst_again (k + 1) ?_ (FSub.of (by (try dsimp only); exact fsa)) (by (try dsimp only); exact hsa) ?_
        · exact ⟨by omega, by rw [take_one hx, take_one hy, ht, hxy]⟩
        · show xs.length - (k + 1) < xs.length - k
          omega
      · (repeat' (first | (apply run_qg 1; (focus rfl); (focus exact wt); (focus rfl); (focus (exact qg1))) | (apply run_qg 4; (focus rfl); (focus exact wt); (focus rfl); (focus (first | exact qg4 | exact qs4))) | refine cod_seq ?_ | refine cod_region ?_ | refine run_nil ?_ | refine pst_then ?_ | (apply cod_cond_t; (focus rfl)) | refine cod_block ?_ | refine cod_ret ?_ | refine cod_skip ?_ | refine pst_block_ret ?_ | refine pst_then_ret ?_ | (apply cod_drawn_k; (focus kernel_rfl); (focus (simp only [List.length_cons, List.length_nil, Nat.reduceAdd]; rfl))) | (apply drnK_take 1; (focus rfl); (focus rfl); (focus exact wt); (focus (decide +kernel)); (focus exact hsq); (focus rfl); (focus (exact qg1))) | (apply drnK_take 2; (focus rfl); (focus rfl); (focus exact wt); (focus (decide +kernel)); (focus exact hsq); (focus rfl); (focus (first | exact qg2 | exact qs2))) | (apply drnK_take 3; (focus rfl); (focus rfl); (focus exact wt); (focus (decide +kernel)); (focus exact hsq); (focus rfl); (focus (first | exact qg3 | exact qs3))) | (apply drnK_take 4; (focus rfl); (focus rfl); (focus exact wt); (focus (decide +kernel)); (focus exact hsq); (focus rfl); (focus (first | exact qg4 | exact qs4))) | (apply drnK_end; (focus (decide +kernel)))))
        have hd : decide (xs = ys) = false := by
          rw [decide_eq_false_iff_not]
          intro e
          rw [e, hy] at hx
          exact hxy (Option.some.inj hx).symm
        exact pst_fin rfl (by exact resa) _ (⟨by rw [hd], rfl⟩) (by exact hsa)
    · (repeat' (first | (apply run_qg 1; (focus rfl); (focus exact wt); (focus rfl); (focus (exact qg1))) | (apply run_qg 4; (focus rfl); (focus exact wt); (focus rfl); (focus (first | exact qg4 | exact qs4))) | refine cod_seq ?_ | refine cod_region ?_ | refine run_nil ?_ | refine pst_then ?_ | (apply cod_cond_f; (focus rfl)) | refine cod_exit ?_ | refine cod_ret ?_ | refine pst_block_here ?_ | refine pst_then_exit ?_))
      have hd : decide (xs = ys) = true := by
        rw [decide_eq_true_iff]
        rwa [List.take_of_length_le hge, List.take_of_length_le (by omega)] at ht
      exact pst_fin rfl (by exact resa) _ (⟨by rw [hd], rfl⟩) (by exact hsa)
  · have hd : decide (xs = ys) = false := by
      rw [decide_eq_false_iff_not]
      intro e
      rw [e] at hl
      exact hl rfl
    (refine spec_enter Try.func16 Try.ntmps16 rfl rfl fun Fr => ?_; dsimp only [List.cons_append, List.nil_append, ini, Nat.reduceAdd])
    (repeat' (first | (apply run_qg 1; (focus rfl); (focus exact wt); (focus rfl); (focus (exact qg1))) | (apply run_qg 4; (focus rfl); (focus exact wt); (focus rfl); (focus (first | exact qg4 | exact qs4))) | (apply run_qg 6; (focus rfl); (focus exact wt); (focus rfl); (focus (first | exact qs6 | exact qg6 | exact q_max rfl rfl rfl | exact q_sliceData rfl rfl (by omega) | exact q_sliceDataN rfl rfl | exact q_unsafeStringN rfl rfl rfl | exact q_cap_slice rfl rfl))) | refine cod_seq ?_ | refine cod_region ?_ | refine run_nil ?_ | refine pst_then ?_ | (apply cod_cond_t; (focus rfl)) | refine cod_ret ?_ | refine pst_then_ret ?_))
    exact pst_fin rfl (by exact resa) _ (⟨by rw [hd], rfl⟩) (by exact hsa)

theorem read_is {q : Option Addr} {c : Nat} {l : List Int} {s : List UInt8} {k n : Nat} {r1 : List Int} {r2 : Nat} {r3 : Int} (hg : ∀ x ∈ l, (Lit.int .i64 x).wf = true) (hn : l.length ≤ 1000000000000000) (hs : s.length ≤ 140737488351232) (hk : k ≤ 8 * s.length) (hn2 : n ≤ 1024) (h : readV l s k n = (r1, r2, r3)) :
    Ct Try.prog 15 [.slice q l.length c, .string (str s), .int .i64 (k : Int), .int .i64 (n : Int)] [sl 1 (.slice q l.length c) (l.map fI)]
      fun v H' => ∃ q2 c2, v = .tuple #[.slice q2 r1.length c2, .int .i64 (r2 : Int), .int .i64 r3] ∧ H' = [own (.slice q2 r1.length c2) 3 1 r1.length (flat fI r1)] := by
  have := read_any q c l s k n hg hn hs hk hn2
  rwa [h] at this
set_option maxRecDepth 100000 in
set_option maxHeartbeats 8000000 in
theorem law_any (q : Option Addr) (c : Nat) (l : List Int) (s : List UInt8) (y z : Int) (hg : ∀ x ∈ l, (Lit.int .i64 x).wf = true) (hn : l.length ≤ 1000000000000000) (hs : s.length ≤ 140737488351232) :
    Ct Try.prog 4 [.slice q l.length c, .string (str s), .int .i64 y, .int .i64 z] [sl 1 (.slice q l.length c) (l.map fI)] fun v H' => v = .bool true ∧ H' = [] := by
  have C0 := fun q c => read_is (q := q) (c := c) (by decide) (by decide) (by decide) (by decide) (by decide) way0
  have E0 := fun qa qb ca cb => ct_true (equal_I qa qb ca cb [0, 1] [0, 1] (by unfold maxLen; decide) (by unfold maxLen; decide)) rfl
  have W1 := within_ct y 40 (by decide) (by decide)
  have W2 := within_ct z 40 (by decide) (by decide)
  have b1 := withinF_bd y 40 (by decide)
  have b2 := withinF_bd z 40 (by decide)
  obtain ⟨n, hn1⟩ := Int.eq_ofNat_of_zero_le b1.1
  obtain ⟨m, hm1⟩ := Int.eq_ofNat_of_zero_le b2.1
  rw [hn1] at W1 b1
  rw [hm1] at W2 b2
  obtain ⟨k1, k2, k3⟩ := read_cuts l s n m
  have hat : (readV l s 0 n).2.1 ≤ 8 * s.length := by
    unfold readV
    split
    · exact readF_at l s n 0 [] (Nat.zero_le _)
    · exact Nat.zero_le _
  rcases ha : readV l s 0 n with ⟨a, at1, e1⟩
  rw [ha] at k1 k2 k3 hat
  dsimp only at k1 k2 k3 hat
  have C1 := fun q c => read_is (q := q) (c := c) hg hn hs (Nat.zero_le _) (by omega) ha
  rcases hb : readV l s at1 m with ⟨b, at2, e2⟩
  rw [hb] at k2 k3
  dsimp only at k2 k3
  have C2 := fun q c => read_is (q := q) (c := c) hg hn hs hat (by omega) hb
  rcases hc : readV l s 0 (n + m) with ⟨d, at3, e3⟩
  rw [hc] at k1 k2 k3
  have C3 := fun q c => read_is (q := q) (c := c) hg hn hs (Nat.zero_le _) (by omega) hc
  have hal : a.length ≤ 40 := by have h9 := readV_len l s 0 n; rw [ha] at h9; dsimp only at h9; omega
  have hbl : b.length ≤ 40 := by have h9 := readV_len l s at1 m; rw [hb] at h9; dsimp only at h9; omega
  clear ha hb hc hg
  by_cases h1 : e1 = 0
  · subst h1
    by_cases h2 : e2 = 0
    · subst h2
      cases k3 rfl rfl
      have hab : (a ++ b).length ≤ 200000000000 := by rw [List.length_append]; omega
      have E1 := fun qa qb ca cb => ct_true (equal_I qa qb ca cb (a ++ b) (a ++ b) (by unfold maxLen; omega) (by unfold maxLen; omega)) rfl
      (refine spec_enter Try.func4 Try.ntmps4 rfl rfl fun Fr => ?_; dsimp only [List.cons_append, List.nil_append, ini, Nat.reduceAdd])
      (repeat' (first | (apply run_qg 1; (focus rfl); (focus exact wt); (focus rfl); (focus (exact qg1))) | refine cod_seq ?_ | refine cod_region ?_ | refine run_nil ?_ | refine pst_then ?_ | (apply run_osg 10; (focus rfl); (focus exact wt); (focus rfl); (focus (exact opr_buildSlice rfl rfl rfl (by exact blda) rfl rfl (by decide) rfl)); (rintro _ _ ⟨q, rfl, rfl⟩))))
      (refine run_os wt rfl (opr_call_l rfl (C0 _ _) rfl (by exact lpa)) ?_; rintro _ _ ⟨_, ⟨q0, c0, rfl, rfl⟩, rfl⟩; dsimp only [List.cons_append, List.nil_append])
      (repeat' (first | (apply run_qg 1; (focus rfl); (focus exact wt); (focus rfl); (focus (exact qg1))) | (apply run_qg 4; (focus rfl); (focus exact wt); (focus rfl); (focus (first | exact qg4 | exact qs4))) | refine cod_seq ?_ | refine cod_region ?_ | refine run_nil ?_ | refine pst_then ?_ | (apply cod_cond_f; (focus rfl)) | refine cod_skip ?_ | (apply run_osg 10; (focus rfl); (focus exact wt); (focus rfl); (focus (exact opr_buildSlice rfl rfl rfl (by exact blda) rfl rfl (by decide) rfl)); (rintro _ _ ⟨q, rfl, rfl⟩)) | (apply run_osg 7; (focus rfl); (focus exact wt); (focus rfl); (focus (exact opr_call_ls (by rfl) (E0 ..) (by rfl) lpa)); (rintro _ _ ⟨rfl, rfl⟩)) | (apply run_osg 7; (focus rfl); (focus exact wt); (focus rfl); (focus (exact opr_call_ls (by rfl) (W1 ..) (by rfl) lpa)); (rintro _ _ ⟨rfl, rfl⟩)) | (apply run_osg 7; (focus rfl); (focus exact wt); (focus rfl); (focus (exact opr_call_ls (by rfl) (W2 ..) (by rfl) lpa)); (rintro _ _ ⟨rfl, rfl⟩))))
      (refine run_os wt rfl (opr_call_l rfl (C3 _ _) rfl (by exact lpa)) ?_; rintro _ _ ⟨_, ⟨q3, c3, rfl, rfl⟩, rfl⟩; dsimp only [List.cons_append, List.nil_append])
      (repeat' (first | (apply run_qg 1; (focus rfl); (focus exact wt); (focus rfl); (focus (exact qg1))) | refine cod_seq ?_ | refine cod_region ?_ | refine run_nil ?_ | refine pst_then ?_))
      (refine run_os wt rfl (opr_call_l rfl (C1 _ _) rfl (by exact lpa)) ?_; rintro _ _ ⟨_, ⟨q1, c1, rfl, rfl⟩, rfl⟩; dsimp only [List.cons_append, List.nil_append])
      (repeat' (first | (apply run_qg 1; (focus rfl); (focus exact wt); (focus rfl); (focus (exact qg1))) | (apply run_qg 4; (focus rfl); (focus exact wt); (focus rfl); (focus (first | exact qg4 | exact qs4))) | refine cod_seq ?_ | refine cod_region ?_ | refine run_nil ?_ | refine pst_then ?_ | (apply cod_cond_f; (focus rfl)) | refine cod_skip ?_))
      (refine run_os wt rfl (opr_call_l rfl (C2 _ _) rfl (by exact lpa)) ?_; rintro _ _ ⟨_, ⟨q2, c2, rfl, rfl⟩, rfl⟩; dsimp only [List.cons_append, List.nil_append])
      (repeat' (first | (apply run_qg 1; (focus rfl); (focus exact wt); (focus rfl); (focus (exact qg1))) | (apply run_qg 4; (focus rfl); (focus exact wt); (focus rfl); (focus (first | exact qg4 | exact qs4))) | refine cod_seq ?_ | refine cod_region ?_ | refine run_nil ?_ | refine pst_then ?_ | (apply cod_cond_f; (focus rfl)) | refine cod_skip ?_ | (apply run_osg 10; (focus rfl); (focus exact wt); (focus rfl); (focus (exact opr_buildSlice rfl rfl rfl (by exact blda) rfl rfl (by decide) rfl)); (rintro _ _ ⟨q, rfl, rfl⟩))))
      (refine run_os wt rfl (opr_call_l rfl (concat_ct _ _ _ _ a b (by omega)) rfl (by exact lpa)) ?_; rintro _ _ ⟨_, ⟨q5, c5, rfl, rfl⟩, rfl⟩; dsimp only [List.cons_append, List.nil_append])
      (repeat' (first | (apply run_qg 1; (focus rfl); (focus exact wt); (focus rfl); (focus (exact qg1))) | (apply run_qg 4; (focus rfl); (focus exact wt); (focus rfl); (focus (first | exact qg4 | exact qs4))) | refine run_nil ?_ | refine pst_then ?_ | refine cod_ret ?_ | (apply run_osg 7; (focus rfl); (focus exact wt); (focus rfl); (focus (exact opr_call_ls (by rfl) (E1 ..) (by rfl) lpa)); (rintro _ _ ⟨rfl, rfl⟩))))
      exact pst_fin rfl (by exact resa) _ (⟨rfl, rfl⟩) (by exact hsa)
    · cases k2 rfl h2
      (refine spec_enter Try.func4 Try.ntmps4 rfl rfl fun Fr => ?_; dsimp only [List.cons_append, List.nil_append, ini, Nat.reduceAdd])
      (repeat' (first | (apply run_qg 1; (focus rfl); (focus exact wt); (focus rfl); (focus (exact qg1))) | refine cod_seq ?_ | refine cod_region ?_ | refine run_nil ?_ | refine pst_then ?_ | (apply run_osg 10; (focus rfl); (focus exact wt); (focus rfl); (focus (exact opr_buildSlice rfl rfl rfl (by exact blda) rfl rfl (by decide) rfl)); (rintro _ _ ⟨q, rfl, rfl⟩))))
      (refine run_os wt rfl (opr_call_l rfl (C0 _ _) rfl (by exact lpa)) ?_; rintro _ _ ⟨_, ⟨q0, c0, rfl, rfl⟩, rfl⟩; dsimp only [List.cons_append, List.nil_append])
      (repeat' (first | (apply run_qg 1; (focus rfl); (focus exact wt); (focus rfl); (focus (exact qg1))) | (apply run_qg 4; (focus rfl); (focus exact wt); (focus rfl); (focus (first | exact qg4 | exact qs4))) | refine cod_seq ?_ | refine cod_region ?_ | refine run_nil ?_ | refine pst_then ?_ | (apply cod_cond_f; (focus rfl)) | refine cod_skip ?_ | (apply run_osg 10; (focus rfl); (focus exact wt); (focus rfl); (focus (exact opr_buildSlice rfl rfl rfl (by exact blda) rfl rfl (by decide) rfl)); (rintro _ _ ⟨q, rfl, rfl⟩)) | (apply run_osg 7; (focus rfl); (focus exact wt); (focus rfl); (focus (exact opr_call_ls (by rfl) (E0 ..) (by rfl) lpa)); (rintro _ _ ⟨rfl, rfl⟩)) | (apply run_osg 7; (focus rfl); (focus exact wt); (focus rfl); (focus (exact opr_call_ls (by rfl) (W1 ..) (by rfl) lpa)); (rintro _ _ ⟨rfl, rfl⟩)) | (apply run_osg 7; (focus rfl); (focus exact wt); (focus rfl); (focus (exact opr_call_ls (by rfl) (W2 ..) (by rfl) lpa)); (rintro _ _ ⟨rfl, rfl⟩))))
      (refine run_os wt rfl (opr_call_l rfl (C3 _ _) rfl (by exact lpa)) ?_; rintro _ _ ⟨_, ⟨q3, c3, rfl, rfl⟩, rfl⟩; dsimp only [List.cons_append, List.nil_append])
      (repeat' (first | (apply run_qg 1; (focus rfl); (focus exact wt); (focus rfl); (focus (exact qg1))) | refine cod_seq ?_ | refine cod_region ?_ | refine run_nil ?_ | refine pst_then ?_))
      (refine run_os wt rfl (opr_call_l rfl (C1 _ _) rfl (by exact lpa)) ?_; rintro _ _ ⟨_, ⟨q1, c1, rfl, rfl⟩, rfl⟩; dsimp only [List.cons_append, List.nil_append])
      (repeat' (first | (apply run_qg 1; (focus rfl); (focus exact wt); (focus rfl); (focus (exact qg1))) | (apply run_qg 4; (focus rfl); (focus exact wt); (focus rfl); (focus (first | exact qg4 | exact qs4))) | refine cod_seq ?_ | refine cod_region ?_ | refine run_nil ?_ | refine pst_then ?_ | (apply cod_cond_f; (focus rfl)) | refine cod_skip ?_))
      (refine run_os wt rfl (opr_call_l rfl (C2 _ _) rfl (by exact lpa)) ?_; rintro _ _ ⟨_, ⟨q2, c2, rfl, rfl⟩, rfl⟩; dsimp only [List.cons_append, List.nil_append])
      (repeat' (first | (apply run_qg 1; (focus rfl); (focus exact wt); (focus rfl); (focus (exact qg1))) | (apply run_qg 4; (focus rfl); (focus exact wt); (focus rfl); (focus (first | exact qg4 | exact qs4))) | (apply run_qg 6; (focus rfl); (focus exact wt); (focus rfl); (focus (first | exact qs6 | exact qg6 | exact q_max rfl rfl rfl | exact q_sliceData rfl rfl (by omega) | exact q_sliceDataN rfl rfl | exact q_unsafeStringN rfl rfl rfl | exact q_cap_slice rfl rfl))) | refine cod_seq ?_ | refine cod_region ?_ | refine run_nil ?_ | refine pst_then ?_ | (apply cod_cond_t; (focus rfl)) | refine cod_ret ?_ | refine pst_then_ret ?_))
      exact pst_fin rfl (by exact resa) _ (⟨rfl, rfl⟩) (by exact hsa)
  · cases k1 h1
    (refine spec_enter Try.func4 Try.ntmps4 rfl rfl fun Fr => ?_; dsimp only [List.cons_append, List.nil_append, ini, Nat.reduceAdd])
    (repeat' (first | (apply run_qg 1; (focus rfl); (focus exact wt); (focus rfl); (focus (exact qg1))) | refine cod_seq ?_ | refine cod_region ?_ | refine run_nil ?_ | refine pst_then ?_ | (apply run_osg 10; (focus rfl); (focus exact wt); (focus rfl); (focus (exact opr_buildSlice rfl rfl rfl (by exact blda) rfl rfl (by decide) rfl)); (rintro _ _ ⟨q, rfl, rfl⟩))))
    (refine run_os wt rfl (opr_call_l rfl (C0 _ _) rfl (by exact lpa)) ?_; rintro _ _ ⟨_, ⟨q0, c0, rfl, rfl⟩, rfl⟩; dsimp only [List.cons_append, List.nil_append])
    (repeat' (first | (apply run_qg 1; (focus rfl); (focus exact wt); (focus rfl); (focus (exact qg1))) | (apply run_qg 4; (focus rfl); (focus exact wt); (focus rfl); (focus (first | exact qg4 | exact qs4))) | refine cod_seq ?_ | refine cod_region ?_ | refine run_nil ?_ | refine pst_then ?_ | (apply cod_cond_f; (focus rfl)) | refine cod_skip ?_ | (apply run_osg 10; (focus rfl); (focus exact wt); (focus rfl); (focus (exact opr_buildSlice rfl rfl rfl (by exact blda) rfl rfl (by decide) rfl)); (rintro _ _ ⟨q, rfl, rfl⟩)) | (apply run_osg 7; (focus rfl); (focus exact wt); (focus rfl); (focus (exact opr_call_ls (by rfl) (E0 ..) (by rfl) lpa)); (rintro _ _ ⟨rfl, rfl⟩)) | (apply run_osg 7; (focus rfl); (focus exact wt); (focus rfl); (focus (exact opr_call_ls (by rfl) (W1 ..) (by rfl) lpa)); (rintro _ _ ⟨rfl, rfl⟩)) | (apply run_osg 7; (focus rfl); (focus exact wt); (focus rfl); (focus (exact opr_call_ls (by rfl) (W2 ..) (by rfl) lpa)); (rintro _ _ ⟨rfl, rfl⟩))))
    (refine run_os wt rfl (opr_call_l rfl (C3 _ _) rfl (by exact lpa)) ?_; rintro _ _ ⟨_, ⟨q3, c3, rfl, rfl⟩, rfl⟩; dsimp only [List.cons_append, List.nil_append])
    (repeat' (first | (apply run_qg 1; (focus rfl); (focus exact wt); (focus rfl); (focus (exact qg1))) | refine cod_seq ?_ | refine cod_region ?_ | refine run_nil ?_ | refine pst_then ?_))
    (refine run_os wt rfl (opr_call_l rfl (C1 _ _) rfl (by exact lpa)) ?_; rintro _ _ ⟨_, ⟨q1, c1, rfl, rfl⟩, rfl⟩; dsimp only [List.cons_append, List.nil_append])
    (repeat' (first | (apply run_qg 1; (focus rfl); (focus exact wt); (focus rfl); (focus (exact qg1))) | (apply run_qg 4; (focus rfl); (focus exact wt); (focus rfl); (focus (first | exact qg4 | exact qs4))) | (apply run_qg 6; (focus rfl); (focus exact wt); (focus rfl); (focus (first | exact qs6 | exact qg6 | exact q_max rfl rfl rfl | exact q_sliceData rfl rfl (by omega) | exact q_sliceDataN rfl rfl | exact q_unsafeStringN rfl rfl rfl | exact q_cap_slice rfl rfl))) | refine cod_seq ?_ | refine cod_region ?_ | refine run_nil ?_ | refine pst_then ?_ | (apply cod_cond_t; (focus rfl)) | refine cod_ret ?_ | refine pst_then_ret ?_))
    exact pst_fin rfl (by exact resa) _ (⟨rfl, rfl⟩) (by exact hsa)
theorem walk (W : World) (v : Value) (l : List Int) (hv : SliceAt W 1 v (l.map fun z : Int => [Value.int .i64 z])) (hg : ∀ z ∈ l, (Lit.int .i64 z).wf = true) (hn : l.length * Try.prog.bytesOf 3 ≤ reachBytes)
    (s : ByteArray) (hs : s.size ≤ reachBytes) (y : Int) (wy : (Lit.int .i64 y).wf = true) (z : Int) (wz : (Lit.int .i64 z).wf = true) :
    Calls Try.prog 4 #[v, .string s, .int .i64 y, .int .i64 z] W fun e w' => e = .returned (.bool true) ∧ Below W.heap.size W w' := by
  obtain ⟨t, rfl, ht⟩ := str_of s
  have hr : reachBytes = 140737488351232 := rfl
  have h8 : Try.prog.bytesOf 3 = 8 := by kernel_rfl
  rw [hr, h8] at hn
  obtain ⟨q, c, rfl⟩ := slice_shape hv
  simp only [List.length_map]
  simp only [List.length_map] at hv
  exact law_of_ct (sh_cons hv sh_nil) (law_any q c l t y z hg (by omega) (by omega))
end Go.Proofs.Ytkepmofjenbefaa.lawCodeCuts
