/-
  glob.Quote: the walk.
-/
import Derived.Test.YtcbpeampjhegcaaDoorGlobMch
namespace Go.Proofs.YtcbpeampjhegcaaDoor.glob
open Go.RowKit kit sl
set_option linter.unusedVariables false
theorem quote_snoc {s : List UInt8} {i : Nat} {b : UInt8} (h : s[i]? = some b) : quote (s.take (i + 1)) = quote (s.take i) ++ (if isSp b then [92, b] else [b]) := by
  rw [List.take_add_one, h]
  unfold quote
  rw [List.flatMap_append]
  simp
theorem sp_cases (b : UInt8) : (isSp b = true ∧ ((b.toNat = 42) ∨ (b.toNat = 63) ∨ (b.toNat = 91) ∨ (b.toNat = 92))) ∨ (isSp b = false ∧ b.toNat ≠ 42 ∧ b.toNat ≠ 63 ∧ b.toNat ≠ 91 ∧ b.toNat ≠ 92) := by
  rw [← sp_same]
  unfold isSpN
  generalize b.toNat = n
  simp
  omega
theorem quote_len (s : List UInt8) : (quote s).length ≤ 2 * s.length := by
  induction s with
  | nil => exact Nat.le_refl _
  | cons b t ih =>
    have : quote (b :: t) = (if isSp b then [92, b] else [b]) ++ quote t := by unfold quote; rw [List.flatMap_cons]
    rw [this, List.length_append, List.length_cons]
    split
    · simp only [List.length_cons, List.length_nil]; omega
    · simp only [List.length_cons, List.length_nil]; omega
attribute [local irreducible] box own sl old bptr eptr Qt Opr Run Cod Pst Drn
attribute [local irreducible] quote isSp
set_option maxRecDepth 100000 in
set_option maxHeartbeats 8000000 in
theorem quote_any (s : List UInt8) (hs : s.length ≤ 2000000) : Ct Tryd.prog 10 [.string (str s)] [] fun v H' => v = .string (str (quote s)) ∧ H' = [] := by
  have hone : ∀ y, ∀ u ∈ fY y, u.oneCell' = true := one_fY
  (refine spec_enter Tryd.func10 Tryd.ntmps10 rfl rfl fun Fr => ?_; dsimp only [List.cons_append, List.nil_append, ini, Nat.reduceAdd])
  (repeat' (first | (apply run_qg 1; (focus rfl); (focus exact wt); (focus rfl); (focus (exact qg1))) | (apply run_qg 6; (focus rfl); (focus exact wt); (focus rfl); (focus (first | exact qs6 | exact qg6 | exact q_max rfl rfl rfl | exact q_sliceData rfl rfl (by omega) | exact q_sliceDataN rfl rfl | exact q_unsafeStringN rfl rfl rfl | exact q_cap_slice rfl rfl))) | refine cod_seq ?_ | refine cod_region ?_ | refine run_nil ?_ | refine pst_then ?_ | refine cod_block ?_))
  refine cod_heap (heap_nil _ 5 1) ?_
  (refine cod_loop_rw (σ := Nat × List UInt8 × Option Addr × Nat) (fun x => x.1 ≤ s.length ∧ x.2.1 = quote (s.take x.1) ∧ x.2.1.length ≤ 2 * x.1) (fun x => [(7, .int .i64 (x.1 : Int)), (3, .slice x.2.2.1 x.2.1.length x.2.2.2)]) (fun x => [own (.slice x.2.2.1 x.2.1.length x.2.2.2) 5 1 x.2.1.length (flat fY x.2.1)]) _ (fun x => s.length - x.1) ((0, [], none, 0)) (by exact ⟨Nat.zero_le _, (by unfold quote; rfl), Nat.le_refl _⟩) (by exact fsa) (by (first | exact HSub.of_picks_rest (by exact pca))) (fun ⟨i, out, q, c⟩ ⟨hi, ho, hol⟩ => ?_); dsimp only [List.cons_append, List.nil_append])
  dsimp only at hi ho hol ⊢
  rcases get_or s i with ⟨b, hb, hlt⟩ | hge
  · have hq := quote_snoc hb
    rw [← ho] at hq
    have hb8 := UInt8.toNat_lt b
    have hL : ∀ x : List UInt8, x.length ≤ 2 → (out ++ x).length ≤ 2 * (i + 1) := fun x hx => by rw [List.length_append]; omega
    rcases sp_cases b with ⟨h1, h2⟩ | ⟨h1, h2, h3, h4, h5⟩
    · rw [h1, if_pos rfl] at hq
      have hL1 : (out ++ [92]).length ≤ 2 * (i + 1) := hL _ (by decide)
      clear ho
      rcases h2 with h2 | h2 | h2 | h2
      all_goals
        (repeat' (first | (apply run_qg 1; (focus rfl); (focus exact wt); (focus rfl); (focus (exact qg1))) | (apply run_qg 3; (focus rfl); (focus exact wt); (focus rfl); (focus (first | exact qg3 | exact qs3))) | (apply run_qg 4; (focus rfl); (focus exact wt); (focus rfl); (focus (first | exact qg4 | exact qs4))) | refine cod_seq ?_ | refine cod_region ?_ | refine run_nil ?_ | refine pst_then ?_ | (apply cod_cond_t; (focus rfl)) | (apply cod_cond_f; (focus rfl)) | refine cod_block ?_ | refine cod_skip ?_ | (apply run_osg 10; (focus rfl); (focus exact wt); (focus rfl); (focus (exact opr_buildSlice rfl rfl rfl (by exact blda) rfl rfl (by decide) rfl)); (rintro _ _ ⟨q, rfl, rfl⟩))))
        refine run_os wt rfl (by first | exact opr_append_lit0 (fY) [(92 : UInt8)] rfl rfl rfl (by exact pka) (by rfl) (by rfl) (by intro _; rfl) (by (first | exact one_fS | exact one_fI | exact one_fB | exact one_fP | exact one_fIIS | exact one_fIIIS | exact one_fII | exact one_fSI | exact one_fIIU | exact one_fY | exact one_fBl | exact one_fT | exact one_fE | assumption)) rfl (by simp only [List.length_cons, List.length_nil]; omega) (by (unfold maxLen); simp only [List.length_cons, List.length_nil]; omega) | exact opr_append_lit (fY) [(92 : UInt8)] rfl rfl rfl (by exact pka) (by exact pka) (by rfl) (by rfl) (by first | rfl | omega) (by intro _; rfl) (by (first | exact one_fS | exact one_fI | exact one_fB | exact one_fP | exact one_fIIS | exact one_fIIIS | exact one_fII | exact one_fSI | exact one_fIIU | exact one_fY | exact one_fBl | exact one_fT | exact one_fE | assumption)) rfl (by simp only [List.length_cons, List.length_nil]; omega) (by (unfold maxLen); simp only [List.length_cons, List.length_nil]; omega)) ?_
        rintro _ _ ⟨q2, c2, rfl, rfl⟩
        (repeat' (first | (apply run_qg 1; (focus rfl); (focus exact wt); (focus rfl); (focus (exact qg1))) | (apply run_qg 3; (focus rfl); (focus exact wt); (focus rfl); (focus (first | exact qg3 | exact qs3))) | refine cod_region ?_ | refine run_nil ?_ | refine pst_then ?_ | refine pst_block ?_ | (apply run_osg 10; (focus rfl); (focus exact wt); (focus rfl); (focus (exact opr_buildSlice rfl rfl rfl (by exact blda) rfl rfl (by decide) rfl)); (rintro _ _ ⟨q, rfl, rfl⟩))))
        refine run_os wt rfl (by first | exact opr_append_lit0 (fY) [b] rfl rfl rfl (by exact pka) (by rfl) (by rfl) (by intro _; rfl) (by (first | exact one_fS | exact one_fI | exact one_fB | exact one_fP | exact one_fIIS | exact one_fIIIS | exact one_fII | exact one_fSI | exact one_fIIU | exact one_fY | exact one_fBl | exact one_fT | exact one_fE | assumption)) rfl (by simp only [List.length_cons, List.length_nil]; omega) (by (unfold maxLen); simp only [List.length_cons, List.length_nil]; omega) | exact opr_append_lit (fY) [b] rfl rfl rfl (by exact pka) (by exact pka) (by rfl) (by rfl) (by first | rfl | omega) (by intro _; rfl) (by (first | exact one_fS | exact one_fI | exact one_fB | exact one_fP | exact one_fIIS | exact one_fIIIS | exact one_fII | exact one_fSI | exact one_fIIU | exact one_fY | exact one_fBl | exact one_fT | exact one_fE | assumption)) rfl (by simp only [List.length_cons, List.length_nil]; omega) (by (unfold maxLen); simp only [List.length_cons, List.length_nil]; omega)) ?_
        rintro _ _ ⟨q3, c3, rfl, rfl⟩
        (repeat' (first | (apply run_qg 1; (focus rfl); (focus exact wt); (focus rfl); (focus (exact qg1))) | (apply run_qg 4; (focus rfl); (focus exact wt); (focus rfl); (focus (first | exact qg4 | exact qs4))) | refine cod_region ?_ | refine run_nil ?_ | refine pst_then ?_ | refine pst_block ?_))
        refine pst_again ((i + 1, (out ++ [92]) ++ [b], q3, c3)) ?_ (FSub.of (by (try dsimp only); exact fsa)) (by (try dsimp only); exact hsa) ?_
        · exact ⟨hlt, by dsimp only; rw [hq, List.append_assoc]; rfl, by dsimp only; rw [List.append_assoc]; exact hL _ (Nat.le_refl 2)⟩
        · dsimp only; omega
    · rw [h1, if_neg (by decide)] at hq
      clear ho
      (repeat' (first | (apply run_qg 1; (focus rfl); (focus exact wt); (focus rfl); (focus (exact qg1))) | (apply run_qg 3; (focus rfl); (focus exact wt); (focus rfl); (focus (first | exact qg3 | exact qs3))) | (apply run_qg 4; (focus rfl); (focus exact wt); (focus rfl); (focus (first | exact qg4 | exact qs4))) | refine cod_seq ?_ | refine cod_region ?_ | refine run_nil ?_ | refine pst_then ?_ | (apply cod_cond_t; (focus rfl)) | (apply cod_cond_f; (focus rfl)) | refine cod_block ?_ | refine cod_skip ?_ | refine pst_block ?_ | (apply run_osg 10; (focus rfl); (focus exact wt); (focus rfl); (focus (exact opr_buildSlice rfl rfl rfl (by exact blda) rfl rfl (by decide) rfl)); (rintro _ _ ⟨q, rfl, rfl⟩))))
      refine run_os wt rfl (by first | exact opr_append_lit0 (fY) [b] rfl rfl rfl (by exact pka) (by rfl) (by rfl) (by intro _; rfl) (by (first | exact one_fS | exact one_fI | exact one_fB | exact one_fP | exact one_fIIS | exact one_fIIIS | exact one_fII | exact one_fSI | exact one_fIIU | exact one_fY | exact one_fBl | exact one_fT | exact one_fE | assumption)) rfl (by simp only [List.length_cons, List.length_nil]; omega) (by (unfold maxLen); simp only [List.length_cons, List.length_nil]; omega) | exact opr_append_lit (fY) [b] rfl rfl rfl (by exact pka) (by exact pka) (by rfl) (by rfl) (by first | rfl | omega) (by intro _; rfl) (by (first | exact one_fS | exact one_fI | exact one_fB | exact one_fP | exact one_fIIS | exact one_fIIIS | exact one_fII | exact one_fSI | exact one_fIIU | exact one_fY | exact one_fBl | exact one_fT | exact one_fE | assumption)) rfl (by simp only [List.length_cons, List.length_nil]; omega) (by (unfold maxLen); simp only [List.length_cons, List.length_nil]; omega)) ?_
      rintro _ _ ⟨q3, c3, rfl, rfl⟩
      (repeat' (first | (apply run_qg 1; (focus rfl); (focus exact wt); (focus rfl); (focus (exact qg1))) | (apply run_qg 4; (focus rfl); (focus exact wt); (focus rfl); (focus (first | exact qg4 | exact qs4))) | refine cod_region ?_ | refine run_nil ?_ | refine pst_then ?_ | refine pst_block ?_))
      refine pst_again ((i + 1, out ++ [b], q3, c3)) ?_ (FSub.of (by (try dsimp only); exact fsa)) (by (try dsimp only); exact hsa) ?_
      · exact ⟨hlt, hq.symm, hL _ (Nat.le_succ 1)⟩
      · dsimp only; omega
  · have hil : i = s.length := by omega
    rw [hil, List.take_length] at ho
    subst ho
    (repeat' (first | (apply run_qg 1; (focus rfl); (focus exact wt); (focus rfl); (focus (exact qg1))) | (apply run_qg 4; (focus rfl); (focus exact wt); (focus rfl); (focus (first | exact qg4 | exact qs4))) | (apply run_qg 11; (focus rfl); (focus exact wt); (focus rfl); (focus (exact qs11))) | refine cod_seq ?_ | refine cod_region ?_ | refine run_nil ?_ | refine pst_then ?_ | (apply cod_cond_f; (focus rfl)) | refine cod_exit ?_ | refine cod_ret ?_ | refine pst_block_here ?_ | refine pst_then_exit ?_))
    exact pst_fin rfl (by exact resa) _ (⟨rfl, rfl⟩) (by exact hsa)
end Go.Proofs.YtcbpeampjhegcaaDoor.glob
