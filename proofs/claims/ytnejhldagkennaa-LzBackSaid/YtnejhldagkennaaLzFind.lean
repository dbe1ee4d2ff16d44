/-
  lz.Find: the fewest marks: the walk.
-/
import Derived.Test.YtnejhldagkennaaLzLong
namespace Go.Proofs.Ytnejhldagkennaa.lz
open Go.RowKit kit sl
set_option linter.unusedVariables false
theorem one_rowM (m : Int × Int × Int) : ∀ u ∈ rowM m, u.oneCell' = true := by simp [rowM, Value.oneCell']
/-- at place i, the copies shorter than n tried -/
def BestAt (L B : Nat → Nat) (i n b st : Nat) : Prop := (st = 1 ∨ 3 ≤ st ∧ st < n ∧ st ≤ L i) ∧ b = B (i + st) + 1 ∧ b ≤ B (i + 1) + 1 ∧ ∀ m, 3 ≤ m → m < n → m ≤ L i → b ≤ B (i + m) + 1
theorem best_nil (L B : Nat → Nat) (i : Nat) : BestAt L B i 3 (B (i + 1) + 1) 1 := ⟨.inl rfl, rfl, Nat.le_refl _, fun m h1 h2 => by omega⟩
theorem best_new {L B : Nat → Nat} {i n b st : Nat} (h : BestAt L B i n b st) (h3 : 3 ≤ n) (hn : n ≤ L i) (hb : B (i + n) + 1 ≤ b) : BestAt L B i (n + 1) (B (i + n) + 1) n := by
  obtain ⟨h1, h2, h4, h5⟩ := h
  refine ⟨.inr ⟨h3, by omega, hn⟩, rfl, by omega, fun m a1 a2 a3 => ?_⟩
  rcases (by omega : m < n ∨ m = n) with h | rfl
  · have := h5 m a1 h a3; omega
  · exact Nat.le_refl _
theorem best_old {L B : Nat → Nat} {i n b st : Nat} (h : BestAt L B i n b st) (hb : b < B (i + n) + 1) : BestAt L B i (n + 1) b st := by
  obtain ⟨h1, h2, h4, h5⟩ := h
  refine ⟨h1.imp id fun h => ⟨h.1, by omega, h.2.2⟩, h2, h4, fun m a1 a2 a3 => ?_⟩
  rcases (by omega : m < n ∨ m = n) with h | rfl
  · exact h5 m a1 h a3
  · omega
theorem dp_next {s : List UInt8} {L D B S : Nat → Nat} {i n b st : Nat} (hL : LongAll s L D) (hi : i < s.length) (hB : Dp s L B S (i + 1)) (h : BestAt L B i n b st) (hn : L i < n) : Dp s L (upd1 B i b) (upd1 S i st) i := by
  obtain ⟨h1, h2, h4, h5⟩ := h
  obtain ⟨g1, g2⟩ := hB
  have hb1 : ∀ j, i < j → upd1 B i b j = B j := fun j hj => upd1_ne _ _ (by omega)
  have hnx : B (i + 1) + (i + 1) ≤ s.length := by
    rcases Nat.lt_or_ge (i + 1) s.length with h | h
    · exact (g2 (i + 1) (Nat.le_refl _) h).2.2.2.2
    · have : i + 1 = s.length := by omega
      rw [this, g1]; omega
  refine ⟨by rw [hb1 _ hi]; exact g1, fun j hij hj => ?_⟩
  rcases (by omega : j = i ∨ i + 1 ≤ j) with rfl | hij2
  · rw [upd1_at, upd1_at, hb1 (j + 1) (by omega)]
    refine ⟨h1.imp id fun h => ⟨h.1, h.2.2⟩, ?_, h4, fun m a1 a2 => ?_, by omega⟩
    · rw [hb1 _ (by omega)]; exact h2
    · rw [hb1 _ (by omega)]; exact h5 m a1 (by omega) a2
  · obtain ⟨k1, k2, k3, k4, k5⟩ := g2 j hij2 hj
    rw [upd1_ne S st (by omega), hb1 j (by omega), hb1 (j + 1) (by omega)]
    refine ⟨k1, ?_, k3, fun m a1 a2 => ?_, k5⟩
    · rw [hb1 _ (by omega)]; exact k2
    · rw [hb1 _ (by omega)]; exact k4 m a1 a2
theorem dp_start {s : List UInt8} (L : Nat → Nat) : Dp s L (fun _ => 0) (fun _ => 0) s.length := ⟨rfl, fun i h1 h2 => by omega⟩
attribute [local irreducible] box own sl old bptr eptr Qt Opr Run Cod Pst Drn
set_option maxRecDepth 100000 in
set_option maxHeartbeats 8000000 in
theorem find_far (s : List UInt8) (hs : 512 < s.length) (hm : s.length ≤ maxLen) :
    Ct Try.prog 12 [.string (str s)] [] fun v H' => v = .tuple #[.slice none 0 0, .int .i64 2] ∧ H' = [] := by
  (refine spec_enter Try.func12 Try.ntmps12 rfl rfl fun Fr => ?_; dsimp only [List.cons_append, List.nil_append, ini, Nat.reduceAdd])
  (repeat' (first | (apply run_qg 1; (focus rfl); (focus exact wt); (focus rfl); (focus (exact qg1))) | (apply run_qg 4; (focus rfl); (focus exact wt); (focus rfl); (focus (first | exact qg4 | exact qs4))) | (apply run_qg 6; (focus rfl); (focus exact wt); (focus rfl); (focus (first | exact qs6 | exact qg6 | exact q_max rfl rfl rfl | exact q_sliceData rfl rfl (by omega) | exact q_sliceDataN rfl rfl | exact q_unsafeStringN rfl rfl rfl | exact q_cap_slice rfl rfl))) | refine cod_seq ?_ | refine cod_region ?_ | refine run_nil ?_ | refine pst_then ?_ | (apply cod_cond_t; (focus rfl)) | refine cod_ret ?_ | refine pst_then_ret ?_))
  exact pst_fin rfl (by exact resa) _ (⟨rfl, rfl⟩) (by exact hsa)
set_option maxRecDepth 100000 in
set_option maxHeartbeats 8000000 in
theorem find_any (s : List UInt8) (hs : s.length ≤ 512) :
    Ct Try.prog 12 [.string (str s)] [] fun v H' => ∃ out q c, Found s out ∧ v = .tuple #[.slice q out.length c, .int .i64 0] ∧ H' = [own (.slice q out.length c) 31 3 out.length (flat rowM out)] := by
  have C0 := longest_any s hs
  obtain ⟨N, hN⟩ : ∃ N, s.length = N := ⟨_, rfl⟩
  rw [hN] at C0 hs
  (refine spec_enter Try.func12 Try.ntmps12 rfl rfl fun Fr => ?_; dsimp only [List.cons_append, List.nil_append, ini, Nat.reduceAdd])
  (repeat' (first | (apply run_qg 1; (focus rfl); (focus exact wt); (focus rfl); (focus (exact qg1))) | (apply run_qg 4; (focus rfl); (focus exact wt); (focus rfl); (focus (first | exact qg4 | exact qs4))) | (apply run_qg 6; (focus rfl); (focus exact wt); (focus rfl); (focus (first | exact qs6 | exact qg6 | exact q_max rfl rfl rfl | exact q_sliceData rfl rfl (by omega) | exact q_sliceDataN rfl rfl | exact q_unsafeStringN rfl rfl rfl | exact q_cap_slice rfl rfl))) | refine cod_seq ?_ | refine cod_region ?_ | refine run_nil ?_ | refine pst_then ?_ | (apply cod_cond_f; (focus rfl)) | refine cod_skip ?_))
  (refine run_os wt rfl (opr_call_l rfl (C0) rfl (by exact lpa)) ?_; rintro _ _ ⟨_, ⟨L, D, q1, q2, hL, rfl, rfl⟩, rfl⟩; dsimp only [List.cons_append, List.nil_append])
  have hLN : ∀ i, i < N → L i = 0 ∨ 3 ≤ L i ∧ i + L i ≤ N := fun i hi => by
    rcases (hL i (by omega)).1 with h | h
    · exact .inl h
    · exact .inr ⟨h.1, by omega⟩
  (repeat' (first | (apply run_qg 1; (focus rfl); (focus exact wt); (focus rfl); (focus (exact qg1))) | refine cod_seq ?_ | refine run_nil ?_ | refine pst_then ?_))
  refine cod_cut_drop 0 (σ := Option Addr × Option Addr) (fun _ => True) (fun x => [(6, .slice x.1 (N + 1) (N + 1)), (7, .slice x.2 (N + 1) (N + 1))]) (fun x => [own (.slice x.1 (N + 1) (N + 1)) 3 1 (N + 1) (flat fI (rowN (N + 1) fun _ => 0)), own (.slice x.2 (N + 1) (N + 1)) 3 1 (N + 1) (flat fI (rowN (N + 1) fun _ => 0))]) ?_ ?_ <;> dsimp only [List.drop]
  · (refine cod_drawn_ks (Hq := []) [] [] rfl (by kernel_rfl) (by simp only [List.length_cons, List.length_nil, Nat.reduceAdd]; rfl) ?_)
    (repeat' (first | (apply drnK_take 1; (focus rfl); (focus rfl); (focus exact wt); (focus (decide +kernel)); (focus exact hsq); (focus rfl); (focus (exact qg1))) | (apply drnK_take 4; (focus rfl); (focus rfl); (focus exact wt); (focus (decide +kernel)); (focus exact hsq); (focus rfl); (focus (first | exact qg4 | exact qs4))) | (apply drnK_take 6; (focus rfl); (focus rfl); (focus exact wt); (focus (decide +kernel)); (focus exact hsq); (focus rfl); (focus (first | exact qs6 | exact qg6 | exact q_max rfl rfl rfl | exact q_sliceData rfl rfl (by omega) | exact q_sliceDataN rfl rfl | exact q_unsafeStringN rfl rfl rfl | exact q_cap_slice rfl rfl))) | (apply drnK_done; (focus (decide +kernel))) | (apply drnK_skip; (focus rfl)) | (apply drnK_wrap; (focus rfl))))
    (refine drnK_at 3 ?_; refine drnK_two 7 (by kernel_rfl) ?_ ?_)
    · ((first | refine drnI_s 1 3 (by rfl) wt (by rfl) (by exact (opr_make (fI) (0) (c := (N + 1)) rfl rfl rfl (by first | rfl | omega) (by first | rfl | omega) rfl rfl (by omega) (by (unfold maxLen); omega))) ?_ | refine drnI_n 1 3 (by rfl) wt (by exact (opr_make (fI) (0) (c := (N + 1)) rfl rfl rfl (by first | rfl | omega) (by first | rfl | omega) rfl rfl (by omega) (by (unfold maxLen); omega))) ?_); rintro _ _ ⟨q3, rfl, rfl⟩; refine ⟨(by first | exact fun h => absurd h (by decide) | exact fun _ => hsq), ?_⟩; (try dsimp only [List.cons_append, List.nil_append]))
      (repeat' (first | (apply drnK_take 1; (focus rfl); (focus rfl); (focus exact wt); (focus (decide +kernel)); (focus exact hsq); (focus rfl); (focus (exact qg1))) | (apply drnK_done; (focus (decide +kernel))) | (apply drnK_skip; (focus rfl)) | (apply drnK_wrap; (focus rfl))))
      (refine drnK_at 7 ?_; (first | refine drnK_ones _ (by rfl) (by rfl) (by kernel_rfl) wt (by rfl) (by exact (opr_make (fI) (0) (c := (N + 1)) rfl rfl rfl (by first | rfl | omega) (by first | rfl | omega) rfl rfl (by omega) (by (unfold maxLen); omega))) ?_ | refine drnK_onen _ (by rfl) (by rfl) (by kernel_rfl) wt (by exact (opr_make (fI) (0) (c := (N + 1)) rfl rfl rfl (by first | rfl | omega) (by first | rfl | omega) rfl rfl (by omega) (by (unfold maxLen); omega))) ?_); rintro _ _ ⟨q4, rfl, rfl⟩; refine ⟨(by first | exact fun h => absurd h (by decide) | exact fun _ => hsq), ?_⟩; (try dsimp only [List.cons_append, List.nil_append]))
      rw [rowN_zero]
      (repeat' (first | (apply drnK_take 1; (focus rfl); (focus rfl); (focus exact wt); (focus (decide +kernel)); (focus exact hsq); (focus rfl); (focus (exact qg1))) | (apply drnK_end; (focus (decide +kernel))) | (apply drnK_done; (focus (decide +kernel)))))
      exact pst_cut ((q3, q4)) (by trivial) (FSub.of fsa) hsa
    · ((first | refine drnI_s 1 7 (by rfl) wt (by rfl) (by exact (opr_make (fI) (0) (c := (N + 1)) rfl rfl rfl (by first | rfl | omega) (by first | rfl | omega) rfl rfl (by omega) (by (unfold maxLen); omega))) ?_ | refine drnI_n 1 7 (by rfl) wt (by exact (opr_make (fI) (0) (c := (N + 1)) rfl rfl rfl (by first | rfl | omega) (by first | rfl | omega) rfl rfl (by omega) (by (unfold maxLen); omega))) ?_); rintro _ _ ⟨q4, rfl, rfl⟩; refine ⟨(by first | exact fun h => absurd h (by decide) | exact fun _ => hsq), ?_⟩; (try dsimp only [List.cons_append, List.nil_append]))
      (repeat' (first | (apply drnK_done; (focus (decide +kernel))) | (apply drnK_skip; (focus rfl)) | (apply drnK_wrap; (focus rfl))))
      (refine drnK_at 3 ?_; (first | refine drnK_ones _ (by rfl) (by rfl) (by kernel_rfl) wt (by rfl) (by exact (opr_make (fI) (0) (c := (N + 1)) rfl rfl rfl (by first | rfl | omega) (by first | rfl | omega) rfl rfl (by omega) (by (unfold maxLen); omega))) ?_ | refine drnK_onen _ (by rfl) (by rfl) (by kernel_rfl) wt (by exact (opr_make (fI) (0) (c := (N + 1)) rfl rfl rfl (by first | rfl | omega) (by first | rfl | omega) rfl rfl (by omega) (by (unfold maxLen); omega))) ?_); rintro _ _ ⟨q3, rfl, rfl⟩; refine ⟨(by first | exact fun h => absurd h (by decide) | exact fun _ => hsq), ?_⟩; (try dsimp only [List.cons_append, List.nil_append]))
      rw [rowN_zero]
      (repeat' (first | (apply drnK_take 1; (focus rfl); (focus rfl); (focus exact wt); (focus (decide +kernel)); (focus exact hsq); (focus rfl); (focus (exact qg1))) | (apply drnK_end; (focus (decide +kernel))) | (apply drnK_done; (focus (decide +kernel)))))
      exact pst_cut ((q3, q4)) (by trivial) (FSub.of fsa) hsa
  rintro ⟨q3, q4⟩ _
  dsimp only [List.cons_append, List.nil_append]
  (repeat' (first | (apply run_qg 1; (focus rfl); (focus exact wt); (focus rfl); (focus (exact qg1))) | (apply run_qg 4; (focus rfl); (focus exact wt); (focus rfl); (focus (first | exact qg4 | exact qs4))) | (apply run_qg 6; (focus rfl); (focus exact wt); (focus rfl); (focus (first | exact qs6 | exact qg6 | exact q_max rfl rfl rfl | exact q_sliceData rfl rfl (by omega) | exact q_sliceDataN rfl rfl | exact q_unsafeStringN rfl rfl rfl | exact q_cap_slice rfl rfl))) | refine cod_seq ?_ | refine cod_region ?_ | refine run_nil ?_ | refine pst_then ?_ | refine cod_block ?_))
  rw [hN]
  (refine cod_loop_rw (σ := Nat × (Nat → Nat) × (Nat → Nat)) (fun x => x.1 ≤ N ∧ Dp s L x.2.1 x.2.2 x.1) (fun x => [(8, .int .i64 ((x.1 : Int) - 1))]) (fun x => [own (.slice q3 (N + 1) (N + 1)) 3 1 (N + 1) (flat fI (rowN (N + 1) x.2.1)), own (.slice q4 (N + 1) (N + 1)) 3 1 (N + 1) (flat fI (rowN (N + 1) x.2.2))]) _ (fun x => x.1) ((N, fun _ => 0, fun _ => 0)) (by exact ⟨Nat.le_refl _, by rw [← hN]; exact dp_start L⟩) (by exact fsa) (by (first | exact HSub.of_picks_rest (by exact pca))) (fun ⟨j, B, S⟩ ⟨hjN, hB⟩ => ?_); dsimp only [List.cons_append, List.nil_append])
  dsimp only at hjN hB ⊢
  cases j with
  | zero =>
    (repeat' (first | (apply run_qg 1; (focus rfl); (focus exact wt); (focus rfl); (focus (exact qg1))) | (apply run_qg 4; (focus rfl); (focus exact wt); (focus rfl); (focus (first | exact qg4 | exact qs4))) | refine cod_seq ?_ | refine cod_region ?_ | refine run_nil ?_ | refine pst_then ?_ | (apply cod_cond_f; (focus rfl)) | refine cod_block ?_ | refine cod_exit ?_ | refine pst_block_here ?_ | refine pst_then_exit ?_))
    refine cod_heap (heap_nil _ 31 3) ?_
    (refine cod_loop_rw (σ := Nat × Option Addr × Nat × List (Int × Int × Int)) (fun x => Way s B x.1 x.2.2.2) (fun x => [(11, .int .i64 (x.1 : Int)), (10, .slice x.2.1 x.2.2.2.length x.2.2.1)]) (fun x => [own (.slice x.2.1 x.2.2.2.length x.2.2.1) 31 3 x.2.2.2.length (flat rowM x.2.2.2)]) _ (fun x => N - x.1) ((0, none, 0, [])) (by exact way_nil s B) (by exact fsa) (by (first | exact HSub.of_picks_rest (by exact pca))) (fun ⟨i, q5, c5, out⟩ hW => ?_); dsimp only [List.cons_append, List.nil_append])
    dsimp only at hW ⊢
    have hiN : i ≤ N := by have := hW.1; omega
    have hB0 : B 0 ≤ N := by
      rcases Nat.eq_zero_or_pos s.length with h | h
      · have := hB.1; rw [h] at this; omega
      · have := (hB.2 0 (Nat.zero_le _) h).2.2.2.2; omega
    have hol : out.length ≤ 512 := by have := hW.2.2.2; omega
    rcases Nat.lt_or_ge i N with hlt | hge
    · have hi2 : i < s.length := by omega
      obtain ⟨x, hx⟩ : ∃ x, s[i]? = some x := ⟨_, List.getElem?_eq_getElem hi2⟩
      have hxd : s.getD i 0 = x := by rw [List.getD_eq_getElem?_getD, hx]; rfl
      have hWn := way_next (by omega) hL hB hi2 hW
      have hst := mark_step (by omega) hL hB hi2 hW.2.1
      have gS : (rowN (N + 1) S)[i]? = some ((S i : Nat) : Int) := rowN_at _ (by omega)
      have gD : (rowN N D)[i]? = some ((D i : Nat) : Int) := rowN_at _ (by omega)
      have hsum : (i : Int) + ((S i : Nat) : Int) = ((i + S i : Nat) : Int) := by omega
      have hS1 := hst.1
      have hS2 := hst.2.1
      by_cases hs1 : S i = 1
      · have hm : markF s S D i = (0, 0, (x.toNat : Int)) := by unfold markF; rw [if_pos hs1, hxd]
        rw [hm] at hWn
        (repeat' (first | (apply run_qg 1; (focus rfl); (focus exact wt); (focus rfl); (focus (exact qg1))) | (apply run_qg 2; (focus rfl); (focus exact wt); (focus rfl); (focus (first | exact qg2 | exact qs2))) | (apply run_qg 3; (focus rfl); (focus exact wt); (focus rfl); (focus (first | exact qg3 | exact qs3))) | (apply run_qg 4; (focus rfl); (focus exact wt); (focus rfl); (focus (first | exact qg4 | exact qs4))) | (apply run_qg 5; (focus rfl); (focus exact wt); (focus rfl); (focus (exact qg5))) | (apply run_qg 6; (focus rfl); (focus exact wt); (focus rfl); (focus (first | exact qs6 | exact qg6 | exact q_max rfl rfl rfl | exact q_sliceData rfl rfl (by omega) | exact q_sliceDataN rfl rfl | exact q_unsafeStringN rfl rfl rfl | exact q_cap_slice rfl rfl))) | refine cod_seq ?_ | refine cod_region ?_ | refine run_nil ?_ | refine pst_then ?_ | (apply cod_cond_t; (focus rfl)) | refine cod_block ?_ | refine cod_skip ?_ | (apply run_osg 10; (focus rfl); (focus exact wt); (focus rfl); (focus (exact opr_buildSlice rfl rfl rfl (by exact blda) rfl rfl (by decide) rfl)); (rintro _ _ ⟨q, rfl, rfl⟩))))
        refine run_os wt rfl (by first | exact opr_append_lit0 (rowM) [(0, 0, (x.toNat : Int))] rfl rfl rfl (by exact pka) (by rfl) (by rfl) (by intro _; rfl) (by (first | exact one_fS | exact one_fI | exact one_fB | exact one_fP | exact one_fIIS | exact one_fIIIS | exact one_fII | exact one_fSI | exact one_fIIU | exact one_fY | exact one_fBl | exact one_fT | exact one_fE | assumption)) rfl (by simp only [List.length_cons, List.length_nil]; omega) (by (unfold maxLen); simp only [List.length_cons, List.length_nil]; omega) | exact opr_append_lit (rowM) [(0, 0, (x.toNat : Int))] rfl rfl rfl (by exact pka) (by exact pka) (by rfl) (by rfl) (by first | rfl | omega) (by intro _; rfl) (by (first | exact one_fS | exact one_fI | exact one_fB | exact one_fP | exact one_fIIS | exact one_fIIIS | exact one_fII | exact one_fSI | exact one_fIIU | exact one_fY | exact one_fBl | exact one_fT | exact one_fE | assumption)) rfl (by simp only [List.length_cons, List.length_nil]; omega) (by (unfold maxLen); simp only [List.length_cons, List.length_nil]; omega)) ?_
        rintro _ _ ⟨q6, c6, rfl, rfl⟩
        (repeat' (first | (apply run_qg 1; (focus rfl); (focus exact wt); (focus rfl); (focus (exact qg1))) | (apply run_qg 2; (focus rfl); (focus exact wt); (focus rfl); (focus (first | exact qg2 | exact qs2))) | (apply run_qg 3; (focus rfl); (focus exact wt); (focus rfl); (focus (first | exact qg3 | exact qs3))) | (apply run_qg 4; (focus rfl); (focus exact wt); (focus rfl); (focus (first | exact qg4 | exact qs4))) | refine cod_region ?_ | refine run_nil ?_ | refine pst_then ?_ | refine pst_block ?_))
        rw [hsum]
        refine pst_again ((i + S i, q6, c6, out ++ [(0, 0, (x.toNat : Int))])) ?_ (FSub.of (by (try dsimp only); exact fsa)) (by (try dsimp only); exact hsa) ?_
        · exact hWn
        · dsimp only; omega
      · have hm : markF s S D i = ((S i : Int), (D i : Int), 0) := by unfold markF; rw [if_neg hs1]
        rw [hm] at hWn
        (repeat' (first | (apply run_qg 1; (focus rfl); (focus exact wt); (focus rfl); (focus (exact qg1))) | (apply run_qg 2; (focus rfl); (focus exact wt); (focus rfl); (focus (first | exact qg2 | exact qs2))) | (apply run_qg 3; (focus rfl); (focus exact wt); (focus rfl); (focus (first | exact qg3 | exact qs3))) | (apply run_qg 4; (focus rfl); (focus exact wt); (focus rfl); (focus (first | exact qg4 | exact qs4))) | (apply run_qg 6; (focus rfl); (focus exact wt); (focus rfl); (focus (first | exact qs6 | exact qg6 | exact q_max rfl rfl rfl | exact q_sliceData rfl rfl (by omega) | exact q_sliceDataN rfl rfl | exact q_unsafeStringN rfl rfl rfl | exact q_cap_slice rfl rfl))) | refine cod_seq ?_ | refine cod_region ?_ | refine run_nil ?_ | refine pst_then ?_ | (apply cod_cond_t; (focus rfl)) | (apply cod_cond_f; (focus rfl)) | refine cod_block ?_ | refine cod_skip ?_))
        (refine cod_drawn_ks (Hq := [_, _]) [2, 4] [] rfl (by kernel_rfl) (by simp only [List.length_cons, List.length_nil, Nat.reduceAdd]; rfl) ?_)
        (repeat' (first | (apply drnK_take 1; (focus rfl); (focus rfl); (focus exact wt); (focus (decide +kernel)); (focus exact hsq); (focus rfl); (focus (exact qg1))) | (apply drnK_take 2; (focus rfl); (focus rfl); (focus exact wt); (focus (decide +kernel)); (focus exact hsq); (focus rfl); (focus (first | exact qg2 | exact qs2))) | (apply drnK_take 3; (focus rfl); (focus rfl); (focus exact wt); (focus (decide +kernel)); (focus exact hsq); (focus rfl); (focus (first | exact qg3 | exact qs3))) | (apply drnK_take 5; (focus rfl); (focus rfl); (focus exact wt); (focus (decide +kernel)); (focus exact hsq); (focus rfl); (focus (exact qg5))) | (apply drnK_done; (focus (decide +kernel))) | (apply drnK_skip; (focus rfl)) | (apply drnK_wrap; (focus rfl))))
        (refine drnK_at 10 ?_; (first | refine drnK_ones _ (by rfl) (by rfl) (by kernel_rfl) wt (by rfl) (by exact opr_buildSlice rfl rfl rfl (by exact blda) rfl rfl (by decide) rfl) ?_ | refine drnK_onen _ (by rfl) (by rfl) (by kernel_rfl) wt (by exact opr_buildSlice rfl rfl rfl (by exact blda) rfl rfl (by decide) rfl) ?_); rintro _ _ ⟨q9, rfl, rfl⟩; refine ⟨(by first | exact fun h => absurd h (by decide) | exact fun _ => hsq), ?_⟩; (try dsimp only [List.cons_append, List.nil_append]))
        (refine drnK_at 11 ?_; (first | refine drnK_ones _ (by rfl) (by rfl) (by kernel_rfl) wt (by rfl) (by exact (by first | exact opr_append_lit0 (rowM) [((S i : Int), (D i : Int), 0)] rfl rfl rfl (by exact pka) (by rfl) (by rfl) (by intro _; rfl) (by (first | exact one_fS | exact one_fI | exact one_fB | exact one_fP | exact one_fIIS | exact one_fIIIS | exact one_fII | exact one_fSI | exact one_fIIU | exact one_fY | exact one_fBl | exact one_fT | exact one_fE | assumption)) rfl (by simp only [List.length_cons, List.length_nil]; omega) (by (unfold maxLen); simp only [List.length_cons, List.length_nil]; omega) | exact opr_append_lit (rowM) [((S i : Int), (D i : Int), 0)] rfl rfl rfl (by exact pka) (by exact pka) (by rfl) (by rfl) (by first | rfl | omega) (by intro _; rfl) (by (first | exact one_fS | exact one_fI | exact one_fB | exact one_fP | exact one_fIIS | exact one_fIIIS | exact one_fII | exact one_fSI | exact one_fIIU | exact one_fY | exact one_fBl | exact one_fT | exact one_fE | assumption)) rfl (by simp only [List.length_cons, List.length_nil]; omega) (by (unfold maxLen); simp only [List.length_cons, List.length_nil]; omega))) ?_ | refine drnK_onen _ (by rfl) (by rfl) (by kernel_rfl) wt (by exact (by first | exact opr_append_lit0 (rowM) [((S i : Int), (D i : Int), 0)] rfl rfl rfl (by exact pka) (by rfl) (by rfl) (by intro _; rfl) (by (first | exact one_fS | exact one_fI | exact one_fB | exact one_fP | exact one_fIIS | exact one_fIIIS | exact one_fII | exact one_fSI | exact one_fIIU | exact one_fY | exact one_fBl | exact one_fT | exact one_fE | assumption)) rfl (by simp only [List.length_cons, List.length_nil]; omega) (by (unfold maxLen); simp only [List.length_cons, List.length_nil]; omega) | exact opr_append_lit (rowM) [((S i : Int), (D i : Int), 0)] rfl rfl rfl (by exact pka) (by exact pka) (by rfl) (by rfl) (by first | rfl | omega) (by intro _; rfl) (by (first | exact one_fS | exact one_fI | exact one_fB | exact one_fP | exact one_fIIS | exact one_fIIIS | exact one_fII | exact one_fSI | exact one_fIIU | exact one_fY | exact one_fBl | exact one_fT | exact one_fE | assumption)) rfl (by simp only [List.length_cons, List.length_nil]; omega) (by (unfold maxLen); simp only [List.length_cons, List.length_nil]; omega))) ?_); rintro _ _ ⟨q6, c6, rfl, rfl⟩; refine ⟨(by first | exact fun h => absurd h (by decide) | exact fun _ => hsq), ?_⟩; (try dsimp only [List.cons_append, List.nil_append]))
        (repeat' (first | (apply run_qg 1; (focus rfl); (focus exact wt); (focus rfl); (focus (exact qg1))) | (apply run_qg 2; (focus rfl); (focus exact wt); (focus rfl); (focus (first | exact qg2 | exact qs2))) | (apply run_qg 3; (focus rfl); (focus exact wt); (focus rfl); (focus (first | exact qg3 | exact qs3))) | (apply run_qg 4; (focus rfl); (focus exact wt); (focus rfl); (focus (first | exact qg4 | exact qs4))) | refine cod_region ?_ | refine run_nil ?_ | refine pst_then ?_ | refine pst_block ?_ | (apply drnK_take 1; (focus rfl); (focus rfl); (focus exact wt); (focus (decide +kernel)); (focus exact hsq); (focus rfl); (focus (exact qg1))) | (apply drnK_end; (focus (decide +kernel)))))
        rw [hsum]
        refine pst_again ((i + S i, q6, c6, out ++ [((S i : Int), (D i : Int), 0)])) ?_ (FSub.of (by (try dsimp only); exact fsa)) (by (try dsimp only); exact hsa) ?_
        · exact hWn
        · dsimp only; omega
    · have hil : i = s.length := by omega
      rw [hil] at hW
      have hF := way_end (by omega) hL hB hW
      (repeat' (first | (apply run_qg 1; (focus rfl); (focus exact wt); (focus rfl); (focus (exact qg1))) | (apply run_qg 4; (focus rfl); (focus exact wt); (focus rfl); (focus (first | exact qg4 | exact qs4))) | (apply run_qg 6; (focus rfl); (focus exact wt); (focus rfl); (focus (first | exact qs6 | exact qg6 | exact q_max rfl rfl rfl | exact q_sliceData rfl rfl (by omega) | exact q_sliceDataN rfl rfl | exact q_unsafeStringN rfl rfl rfl | exact q_cap_slice rfl rfl))) | refine cod_seq ?_ | refine cod_region ?_ | refine run_nil ?_ | refine pst_then ?_ | (apply cod_cond_f; (focus rfl)) | refine cod_exit ?_ | refine cod_ret ?_ | refine pst_block_here ?_ | refine pst_then_exit ?_))
      exact pst_fin rfl (by exact resa) _ (⟨out, q5, c5, hF, rfl, rfl⟩) (by exact hsa)
  | succ i =>
    have hj : ((i + 1 : Nat) : Int) - 1 = (i : Int) := by omega
    rw [hj]
    have hi1 : (i : Int) + 1 = ((i + 1 : Nat) : Int) := by omega
    have gB : (rowN (N + 1) B)[i + 1]? = some ((B (i + 1) : Nat) : Int) := rowN_at _ (by omega)
    have gB0 : (rowN (N + 1) B)[i]? = some ((B i : Nat) : Int) := rowN_at _ (by omega)
    have gS0 : (rowN (N + 1) S)[i]? = some ((S i : Nat) : Int) := rowN_at _ (by omega)
    have gL : (rowN N L)[i]? = some ((L i : Nat) : Int) := rowN_at _ (by omega)
    have hb : ((B (i + 1) : Nat) : Int) + 1 = ((B (i + 1) + 1 : Nat) : Int) := by omega
    have hbN : B (i + 1) ≤ N := by
      rcases Nat.lt_or_ge (i + 1) s.length with h | h
      · have := (hB.2 (i + 1) (Nat.le_refl _) h).2.2.2.2; omega
      · have h9 : i + 1 = s.length := by omega
        rw [h9, hB.1]; omega
    have hBb : ∀ j, i < j → j ≤ N → B j ≤ N := fun j h1 h2 => by
      rcases Nat.lt_or_ge j s.length with h | h
      · have := (hB.2 j h1 h).2.2.2.2; omega
      · have h9 : j = s.length := by omega
        rw [h9, hB.1]; omega
    (repeat' (first | (apply run_qg 1; (focus rfl); (focus exact wt); (focus rfl); (focus (exact qg1))) | (apply run_qg 4; (focus rfl); (focus exact wt); (focus rfl); (focus (first | exact qg4 | exact qs4))) | refine cod_seq ?_ | refine cod_region ?_ | refine run_nil ?_ | refine pst_then ?_ | (apply cod_cond_t; (focus rfl)) | refine cod_block ?_ | refine cod_skip ?_))
    refine run_qs wt rfl (q_index_own (i := i + 1) rfl rfl rfl pka (by omega) (by omega)) ?_
    (repeat' (first | (apply run_qg 2; (focus rfl); (focus exact wt); (focus rfl); (focus (first | exact qg2 | exact qs2))) | (apply run_qg 3; (focus rfl); (focus exact wt); (focus rfl); (focus (first | exact qg3 | exact qs3))) | (apply run_qg 4; (focus rfl); (focus exact wt); (focus rfl); (focus (first | exact qg4 | exact qs4)))))
    rw [hb]
    (refine run_on wt (opr_store_ownm (f := fI) (q' := ((B (i + 1) + 1 : Nat) : Int)) rfl rfl rfl rfl (by exact pka) rfl (by omega) (by intro _; rfl) (by assumption) rfl rfl (by rfl)) ?_; rintro _ _ ⟨rfl, rfl⟩)
    rw [rowN_set _ _ (by omega)]
    (repeat' (first | (apply run_qg 3; (focus rfl); (focus exact wt); (focus rfl); (focus (first | exact qg3 | exact qs3)))))
    (refine run_on wt (opr_store_ownm (f := fI) (q' := ((1 : Nat) : Int)) rfl rfl rfl rfl (by exact pka) rfl (by omega) (by intro _; rfl) (by assumption) rfl rfl (by rfl)) ?_; rintro _ _ ⟨rfl, rfl⟩)
    rw [rowN_set _ _ (by omega)]
    (repeat' (first | (apply run_qg 1; (focus rfl); (focus exact wt); (focus rfl); (focus (exact qg1))) | refine cod_seq ?_ | refine cod_region ?_ | refine run_nil ?_ | refine pst_then ?_ | refine cod_block ?_))
    (refine cod_loop_rw (σ := Nat × Nat × Nat) (fun x => (3 ≤ x.1 ∧ x.1 ≤ 1000) ∧ BestAt L B i x.1 x.2.1 x.2.2) (fun x => [(9, .int .i64 (x.1 : Int))]) (fun x => [own (.slice q3 (N + 1) (N + 1)) 3 1 (N + 1) (flat fI (rowN (N + 1) (upd1 B i x.2.1))), own (.slice q4 (N + 1) (N + 1)) 3 1 (N + 1) (flat fI (rowN (N + 1) (upd1 S i x.2.2)))]) _ (fun x => L i + 1 - x.1) ((3, B (i + 1) + 1, 1)) (by exact ⟨⟨Nat.le_refl 3, show 3 ≤ 1000 by decide⟩, best_nil L B i⟩) (by exact fsa) (by (first | exact HSub.of_picks_rest (by exact pca))) (fun ⟨n, b, st⟩ ⟨⟨hn3, hn1000⟩, hbe⟩ => ?_); dsimp only [List.cons_append, List.nil_append])
    dsimp only at hn3 hn1000 hbe ⊢
    rcases Nat.lt_or_ge (L i) n with hlt | hge
    · (repeat' (first | (apply run_qg 1; (focus rfl); (focus exact wt); (focus rfl); (focus (exact qg1))) | (apply run_qg 2; (focus rfl); (focus exact wt); (focus rfl); (focus (first | exact qg2 | exact qs2))) | (apply run_qg 3; (focus rfl); (focus exact wt); (focus rfl); (focus (first | exact qg3 | exact qs3))) | (apply run_qg 4; (focus rfl); (focus exact wt); (focus rfl); (focus (first | exact qg4 | exact qs4))) | refine cod_seq ?_ | refine cod_region ?_ | refine run_nil ?_ | refine pst_then ?_ | (apply cod_cond_f; (focus rfl)) | refine cod_exit ?_ | refine pst_block_here ?_ | refine pst_then_exit ?_ | refine pst_block ?_))
      refine pst_again ((i, upd1 B i b, upd1 S i st)) ?_ (FSub.of (by (try dsimp only); exact fsa)) (by (try dsimp only); exact hsa) ?_
      · exact ⟨by omega, dp_next hL (by omega) hB hbe hlt⟩
      · dsimp only; omega
    · have hLi := hLN i (by omega)
      have gBn : (rowN (N + 1) (upd1 B i b))[i + n]? = some ((B (i + n) : Nat) : Int) := by rw [rowN_at _ (by omega), upd1_ne _ _ (by omega)]
      have gBi : (rowN (N + 1) (upd1 B i b))[i]? = some (b : Int) := by rw [rowN_at _ (by omega), upd1_at]
      have gSi : (rowN (N + 1) (upd1 S i st))[i]? = some (st : Int) := by rw [rowN_at _ (by omega), upd1_at]
      have hin : (i : Int) + (n : Int) = ((i + n : Nat) : Int) := by omega
      have hbn : ((B (i + n) : Nat) : Int) + 1 = ((B (i + n) + 1 : Nat) : Int) := by omega
      have hBn := hBb (i + n) (by omega) (by omega)
      have hbb : b ≤ N + 1 := by have := hbe.2.2.1; omega
      by_cases hle : B (i + n) + 1 ≤ b
      · (repeat' (first | (apply run_qg 1; (focus rfl); (focus exact wt); (focus rfl); (focus (exact qg1))) | (apply run_qg 2; (focus rfl); (focus exact wt); (focus rfl); (focus (first | exact qg2 | exact qs2))) | (apply run_qg 3; (focus rfl); (focus exact wt); (focus rfl); (focus (first | exact qg3 | exact qs3))) | (apply run_qg 4; (focus rfl); (focus exact wt); (focus rfl); (focus (first | exact qg4 | exact qs4))) | refine cod_seq ?_ | refine cod_region ?_ | refine run_nil ?_ | refine pst_then ?_ | (apply cod_cond_t; (focus rfl)) | refine cod_block ?_ | refine cod_skip ?_ | (apply cod_drawn_k; (focus kernel_rfl); (focus (simp only [List.length_cons, List.length_nil, Nat.reduceAdd]; rfl))) | (apply drnK_take 1; (focus rfl); (focus rfl); (focus exact wt); (focus (decide +kernel)); (focus exact hsq); (focus rfl); (focus (exact qg1))) | (apply drnK_take 2; (focus rfl); (focus rfl); (focus exact wt); (focus (decide +kernel)); (focus exact hsq); (focus rfl); (focus (first | exact qg2 | exact qs2))) | (apply drnK_take 3; (focus rfl); (focus rfl); (focus exact wt); (focus (decide +kernel)); (focus exact hsq); (focus rfl); (focus (first | exact qg3 | exact qs3))) | (apply drnK_take 4; (focus rfl); (focus rfl); (focus exact wt); (focus (decide +kernel)); (focus exact hsq); (focus rfl); (focus (first | exact qg4 | exact qs4))) | (apply drnK_end; (focus (decide +kernel)))))
        rw [hbn]
        (refine run_on wt (opr_store_ownm (f := fI) (q' := ((B (i + n) + 1 : Nat) : Int)) rfl rfl rfl rfl (by exact pka) rfl (by omega) (by intro _; rfl) (by assumption) rfl rfl (by rfl)) ?_; rintro _ _ ⟨rfl, rfl⟩)
        rw [rowN_set _ _ (by omega), upd1_upd1]
        (repeat' (first | (apply run_qg 3; (focus rfl); (focus exact wt); (focus rfl); (focus (first | exact qg3 | exact qs3)))))
        (refine run_on wt (opr_store_ownm (f := fI) (q' := (n : Int)) rfl rfl rfl rfl (by exact pka) rfl (by omega) (by intro _; rfl) (by assumption) rfl rfl (by rfl)) ?_; rintro _ _ ⟨rfl, rfl⟩)
        rw [rowN_set _ _ (by omega), upd1_upd1]
        (repeat' (first | (apply run_qg 1; (focus rfl); (focus exact wt); (focus rfl); (focus (exact qg1))) | (apply run_qg 4; (focus rfl); (focus exact wt); (focus rfl); (focus (first | exact qg4 | exact qs4))) | refine cod_region ?_ | refine run_nil ?_ | refine pst_then ?_ | refine pst_block ?_))
        refine pst_again ((n + 1, B (i + n) + 1, n)) ?_ (FSub.of (by (try dsimp only); exact fsa)) (by (try dsimp only); exact hsa) ?_
        · exact ⟨by omega, best_new hbe hn3 hge hle⟩
        · dsimp only; omega
      · have hlt9 : b < B (i + n) + 1 := by omega
        (repeat' (first | (apply run_qg 1; (focus rfl); (focus exact wt); (focus rfl); (focus (exact qg1))) | (apply run_qg 2; (focus rfl); (focus exact wt); (focus rfl); (focus (first | exact qg2 | exact qs2))) | (apply run_qg 3; (focus rfl); (focus exact wt); (focus rfl); (focus (first | exact qg3 | exact qs3))) | (apply run_qg 4; (focus rfl); (focus exact wt); (focus rfl); (focus (first | exact qg4 | exact qs4))) | refine cod_seq ?_ | refine cod_region ?_ | refine run_nil ?_ | refine pst_then ?_ | (apply cod_cond_t; (focus rfl)) | (apply cod_cond_f; (focus rfl)) | refine cod_block ?_ | refine cod_skip ?_ | refine pst_block ?_ | (apply cod_drawn_k; (focus kernel_rfl); (focus (simp only [List.length_cons, List.length_nil, Nat.reduceAdd]; rfl))) | (apply drnK_take 1; (focus rfl); (focus rfl); (focus exact wt); (focus (decide +kernel)); (focus exact hsq); (focus rfl); (focus (exact qg1))) | (apply drnK_take 2; (focus rfl); (focus rfl); (focus exact wt); (focus (decide +kernel)); (focus exact hsq); (focus rfl); (focus (first | exact qg2 | exact qs2))) | (apply drnK_take 3; (focus rfl); (focus rfl); (focus exact wt); (focus (decide +kernel)); (focus exact hsq); (focus rfl); (focus (first | exact qg3 | exact qs3))) | (apply drnK_take 4; (focus rfl); (focus rfl); (focus exact wt); (focus (decide +kernel)); (focus exact hsq); (focus rfl); (focus (first | exact qg4 | exact qs4))) | (apply drnK_end; (focus (decide +kernel)))))
        refine pst_again ((n + 1, b, st)) ?_ (FSub.of (by (try dsimp only); exact fsa)) (by (try dsimp only); exact hsa) ?_
        · exact ⟨by omega, best_old hbe hlt9⟩
        · dsimp only; omega
end Go.Proofs.Ytnejhldagkennaa.lz
