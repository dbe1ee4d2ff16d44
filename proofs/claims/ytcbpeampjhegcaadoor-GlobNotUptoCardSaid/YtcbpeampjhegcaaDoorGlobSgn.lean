/-
  linenref.Signs: the walk.
-/
import Derived.Test.YtcbpeampjhegcaaDoorGlobFst
namespace Go.Proofs.YtcbpeampjhegcaaDoor.glob
open Go.RowKit kit sl
set_option linter.unusedVariables false
/-- where the signs begin, the first k of them -/
def atsN (S : List Nat) (k : Nat) : List Nat := (List.range k).map (offs S)
theorem atsN_len (S : List Nat) (k : Nat) : (atsN S k).length = k := by simp [atsN]
theorem atsN_snoc (S : List Nat) (k : Nat) : atsN S (k + 1) = atsN S k ++ [offs S k] := by
  unfold atsN
  rw [List.range_succ, List.map_append]
  rfl
theorem offs_zero (S : List Nat) : offs S 0 = 0 := by unfold offs; rw [List.take_zero]; rfl
theorem offs_next {S pre post : List Nat} {x : Nat} (h : S = pre ++ x :: post) : offs S (pre.length + 1) = offs S pre.length + (encS x).length := by
  unfold offs
  rw [h, List.take_length_add_append, List.take_left]
  simp
def SgR (s : List UInt8) (v : Value) (H' : List Ent) : Prop := ∃ q c q2 c2, v = .tuple #[.slice q (sigs s).length c, .slice q2 ((sigs s).length + 1) c2] ∧ H' = [own (.slice q (sigs s).length c) 3 1 (sigs s).length (flat fN (sigs s)), own (.slice q2 ((sigs s).length + 1) c2) 3 1 ((sigs s).length + 1) (flat fN (atsN (sigs s) (sigs s).length ++ [s.length]))]
attribute [local irreducible] box own sl old bptr eptr Qt Opr Run Cod Pst Drn
attribute [local irreducible] sigs offs atsN encS firstP
set_option maxRecDepth 100000 in
set_option maxHeartbeats 8000000 in
theorem signs_doc (s : List UInt8) (hs : s.length ≤ 2000000) : Ct Tryd.prog 7 [.string (str s)] [] (SgR s) := by
  have hsl := (sig_bd (sig_sigs s)).1
  obtain ⟨S, hS⟩ : ∃ S, sigs s = S := ⟨_, rfl⟩
  unfold SgR
  rw [hS] at hsl ⊢
  have hone : ∀ y, ∀ u ∈ fN y, u.oneCell' = true := one_fN
  (refine spec_enter Tryd.func7 Tryd.ntmps7 rfl rfl fun Fr => ?_; dsimp only [List.cons_append, List.nil_append, ini, Nat.reduceAdd])
  (repeat' (first | (apply run_qg 1; (focus rfl); (focus exact wt); (focus rfl); (focus (exact qg1))) | refine cod_seq ?_ | refine cod_region ?_ | refine run_nil ?_ | refine pst_then ?_ | refine cod_block ?_))
  refine cod_heap (heap_nil _ 3 1) ?_
  refine cod_heap (heap_nil _ 3 1) ?_
  (refine cod_loop_rw (σ := Nat × (List Nat × Option Addr × Nat) × (List Nat × Option Addr × Nat)) (fun x => (x.1 ≤ s.length ∧ S = x.2.1.1 ++ sigs (s.drop x.1)) ∧ (x.2.2.1 = atsN S x.2.1.1.length ∧ x.1 = offs S x.2.1.1.length) ∧ (x.2.1.1.length ≤ x.1 ∧ x.2.2.1.length = x.2.1.1.length)) (fun x => [(6, .int .i64 (x.1 : Int)), (4, .slice x.2.1.2.1 x.2.1.1.length x.2.1.2.2), (5, .slice x.2.2.2.1 x.2.2.1.length x.2.2.2.2)]) (fun x => [own (.slice x.2.1.2.1 x.2.1.1.length x.2.1.2.2) 3 1 x.2.1.1.length (flat fN x.2.1.1), own (.slice x.2.2.2.1 x.2.2.1.length x.2.2.2.2) 3 1 x.2.2.1.length (flat fN x.2.2.1)]) _ (fun x => s.length - x.1) ((0, ([], none, 0), ([], none, 0))) (by exact ⟨⟨Nat.zero_le _, hS.symm⟩, ⟨(by unfold atsN; rfl), (offs_zero S).symm⟩, Nat.le_refl _, rfl⟩) (by exact fsa) (by (first | exact HSub.of_picks_rest (by exact pca))) (fun ⟨i, ⟨pre, q0, c⟩, ⟨ats, q2, c2⟩⟩ ⟨⟨hi, hpre⟩, ⟨ha, ho⟩, hpl, hal⟩ => ?_); dsimp only [List.cons_append, List.nil_append])
  dsimp only at hi hpre ha ho hpl hal ⊢
  rcases Nat.lt_or_ge i s.length with hlt | hge
  · obtain ⟨b, t, hbt⟩ : ∃ b t, s.drop i = b :: t := by
      cases h : s.drop i with
      | nil => have := congrArg List.length h; rw [List.length_drop] at this; simp at this; omega
      | cons b t => exact ⟨b, t, rfl⟩
    have hbi : s[i]? = some b := by
      have := congrArg List.head? hbt
      simpa using this
    have hdl : (b :: t).length = s.length - i := by rw [← hbt, List.length_drop]
    have hdn : ∀ n, s.drop (i + n) = (b :: t).drop n := fun n => by rw [← hbt, List.drop_drop]
    have C0 := first_any b t (by omega)
    have hb8 := b.toNat_lt
    rw [hbt] at hpre
    rcases sig_step2 b t with ⟨h1, h2, h3⟩ | ⟨v, n, h1, h2, h3, h4, h5⟩
    · rw [h2] at hpre
      rw [h1] at C0
      have hn1 := offs_next hpre
      rw [h3, ← ho] at hn1
      have hat := atsN_snoc S pre.length
      rw [← ha, ← ho] at hat
      have hd1 : s.drop (i + 1) = t := hdn 1
      generalize hct : b :: t = ct at *
      clear hct ho ha h1 h2 h3 hdn
      have hc : (1114112 : Int) + (b.toNat : Int) = ((1114112 + b.toNat : Nat) : Int) := by omega
      (repeat' (first | (apply run_qg 1; (focus rfl); (focus exact wt); (focus rfl); (focus (exact qg1))) | (apply run_qg 3; (focus rfl); (focus exact wt); (focus rfl); (focus (first | exact qg3 | exact qs3))) | (apply run_qg 4; (focus rfl); (focus exact wt); (focus rfl); (focus (first | exact qg4 | exact qs4))) | (apply run_qg 6; (focus rfl); (focus exact wt); (focus rfl); (focus (first | exact qs6 | exact qg6 | exact q_max rfl rfl rfl | exact q_sliceData rfl rfl (by omega) | exact q_sliceDataN rfl rfl | exact q_unsafeStringN rfl rfl rfl | exact q_cap_slice rfl rfl))) | (apply run_qg 11; (focus rfl); (focus exact wt); (focus rfl); (focus (exact qs11))) | (apply run_qg 12; (focus rfl); (focus exact wt); (focus rfl); (focus (first | exact qs12 | exact q_cutp rfl rfl rfl rfl (by omega) (by omega) | exact q_slice_cap rfl rfl rfl rfl (by omega)))) | refine cod_seq ?_ | refine cod_region ?_ | refine run_nil ?_ | refine pst_then ?_ | (apply cod_cond_t; (focus rfl)) | refine cod_block ?_ | refine cod_skip ?_ | (apply run_osg 10; (focus rfl); (focus exact wt); (focus rfl); (focus (exact opr_buildSlice rfl rfl rfl (by exact blda) rfl rfl (by decide) rfl)); (rintro _ _ ⟨q, rfl, rfl⟩)) | (apply run_osg 7; (focus rfl); (focus exact wt); (focus rfl); (focus (exact opr_call_ls (by rfl) (C0 ..) (by rfl) lpa)); (rintro _ _ ⟨rfl, rfl⟩))))
      rw [hc]
      refine run_os wt rfl (by first | exact opr_append_lit0 (fN) [(1114112 + b.toNat : Nat)] rfl rfl rfl (by exact pka) (by rfl) (by rfl) (by intro _; rfl) (by (first | exact one_fS | exact one_fI | exact one_fB | exact one_fP | exact one_fIIS | exact one_fIIIS | exact one_fII | exact one_fSI | exact one_fIIU | exact one_fY | exact one_fBl | exact one_fT | exact one_fE | assumption)) rfl (by simp only [List.length_cons, List.length_nil]; omega) (by (unfold maxLen); simp only [List.length_cons, List.length_nil]; omega) | exact opr_append_lit (fN) [(1114112 + b.toNat : Nat)] rfl rfl rfl (by exact pka) (by exact pka) (by rfl) (by rfl) (by first | rfl | omega) (by intro _; rfl) (by (first | exact one_fS | exact one_fI | exact one_fB | exact one_fP | exact one_fIIS | exact one_fIIIS | exact one_fII | exact one_fSI | exact one_fIIU | exact one_fY | exact one_fBl | exact one_fT | exact one_fE | assumption)) rfl (by simp only [List.length_cons, List.length_nil]; omega) (by (unfold maxLen); simp only [List.length_cons, List.length_nil]; omega)) ?_
      rintro _ _ ⟨q5, c5, rfl, rfl⟩
      (repeat' (first | (apply run_qg 1; (focus rfl); (focus exact wt); (focus rfl); (focus (exact qg1))) | (apply run_osg 10; (focus rfl); (focus exact wt); (focus rfl); (focus (exact opr_buildSlice rfl rfl rfl (by exact blda) rfl rfl (by decide) rfl)); (rintro _ _ ⟨q, rfl, rfl⟩))))
      refine run_os wt rfl (by first | exact opr_append_lit0 (fN) [i] rfl rfl rfl (by exact pka) (by rfl) (by rfl) (by intro _; rfl) (by (first | exact one_fS | exact one_fI | exact one_fB | exact one_fP | exact one_fIIS | exact one_fIIIS | exact one_fII | exact one_fSI | exact one_fIIU | exact one_fY | exact one_fBl | exact one_fT | exact one_fE | assumption)) rfl (by simp only [List.length_cons, List.length_nil]; omega) (by (unfold maxLen); simp only [List.length_cons, List.length_nil]; omega) | exact opr_append_lit (fN) [i] rfl rfl rfl (by exact pka) (by exact pka) (by rfl) (by rfl) (by first | rfl | omega) (by intro _; rfl) (by (first | exact one_fS | exact one_fI | exact one_fB | exact one_fP | exact one_fIIS | exact one_fIIIS | exact one_fII | exact one_fSI | exact one_fIIU | exact one_fY | exact one_fBl | exact one_fT | exact one_fE | assumption)) rfl (by simp only [List.length_cons, List.length_nil]; omega) (by (unfold maxLen); simp only [List.length_cons, List.length_nil]; omega)) ?_
      rintro _ _ ⟨q6, c6, rfl, rfl⟩
      (repeat' (first | (apply run_qg 1; (focus rfl); (focus exact wt); (focus rfl); (focus (exact qg1))) | (apply run_qg 4; (focus rfl); (focus exact wt); (focus rfl); (focus (first | exact qg4 | exact qs4))) | refine cod_region ?_ | refine run_nil ?_ | refine pst_then ?_ | refine pst_block ?_))
      refine pst_again ((i + 1, (pre ++ [1114112 + b.toNat], q5, c5), (ats ++ [i], q6, c6))) ?_ (FSub.of (by (try dsimp only); exact fsa)) (by (try dsimp only); exact hsa) ?_
      · refine ⟨⟨hlt, ?_⟩, ⟨?_, ?_⟩, ?_, ?_⟩
        · dsimp only
          rw [hpre, hd1, List.append_assoc]
          rfl
        · dsimp only
          rw [List.length_append, List.length_singleton]
          exact hat.symm
        · dsimp only
          rw [List.length_append, List.length_singleton]
          exact hn1.symm
        · dsimp only
          rw [List.length_append, List.length_singleton]
          omega
        · dsimp only
          rw [List.length_append, List.length_singleton, List.length_append, List.length_singleton]
          omega
      · dsimp only; omega
    · rw [h4] at hpre
      rw [h1] at C0
      have hn1 := offs_next hpre
      rw [h5, ← ho] at hn1
      have hat := atsN_snoc S pre.length
      rw [← ha, ← ho] at hat
      have hd1 := hdn n
      generalize hct : b :: t = ct at *
      clear hct ho ha h1 h4 h5 hdn
      have hc : (i : Int) + (n : Int) = ((i + n : Nat) : Int) := by omega
      (repeat' (first | (apply run_qg 1; (focus rfl); (focus exact wt); (focus rfl); (focus (exact qg1))) | (apply run_qg 4; (focus rfl); (focus exact wt); (focus rfl); (focus (first | exact qg4 | exact qs4))) | (apply run_qg 6; (focus rfl); (focus exact wt); (focus rfl); (focus (first | exact qs6 | exact qg6 | exact q_max rfl rfl rfl | exact q_sliceData rfl rfl (by omega) | exact q_sliceDataN rfl rfl | exact q_unsafeStringN rfl rfl rfl | exact q_cap_slice rfl rfl))) | (apply run_qg 12; (focus rfl); (focus exact wt); (focus rfl); (focus (first | exact qs12 | exact q_cutp rfl rfl rfl rfl (by omega) (by omega) | exact q_slice_cap rfl rfl rfl rfl (by omega)))) | refine cod_seq ?_ | refine cod_region ?_ | refine run_nil ?_ | refine pst_then ?_ | (apply cod_cond_t; (focus rfl)) | (apply cod_cond_f; (focus rfl)) | refine cod_block ?_ | refine cod_skip ?_ | (apply run_osg 10; (focus rfl); (focus exact wt); (focus rfl); (focus (exact opr_buildSlice rfl rfl rfl (by exact blda) rfl rfl (by decide) rfl)); (rintro _ _ ⟨q, rfl, rfl⟩)) | (apply run_osg 7; (focus rfl); (focus exact wt); (focus rfl); (focus (exact opr_call_ls (by rfl) (C0 ..) (by rfl) lpa)); (rintro _ _ ⟨rfl, rfl⟩))))
      refine run_os wt rfl (by first | exact opr_append_lit0 (fN) [v] rfl rfl rfl (by exact pka) (by rfl) (by rfl) (by intro _; rfl) (by (first | exact one_fS | exact one_fI | exact one_fB | exact one_fP | exact one_fIIS | exact one_fIIIS | exact one_fII | exact one_fSI | exact one_fIIU | exact one_fY | exact one_fBl | exact one_fT | exact one_fE | assumption)) rfl (by simp only [List.length_cons, List.length_nil]; omega) (by (unfold maxLen); simp only [List.length_cons, List.length_nil]; omega) | exact opr_append_lit (fN) [v] rfl rfl rfl (by exact pka) (by exact pka) (by rfl) (by rfl) (by first | rfl | omega) (by intro _; rfl) (by (first | exact one_fS | exact one_fI | exact one_fB | exact one_fP | exact one_fIIS | exact one_fIIIS | exact one_fII | exact one_fSI | exact one_fIIU | exact one_fY | exact one_fBl | exact one_fT | exact one_fE | assumption)) rfl (by simp only [List.length_cons, List.length_nil]; omega) (by (unfold maxLen); simp only [List.length_cons, List.length_nil]; omega)) ?_
      rintro _ _ ⟨q5, c5, rfl, rfl⟩
      (repeat' (first | (apply run_qg 1; (focus rfl); (focus exact wt); (focus rfl); (focus (exact qg1))) | (apply run_osg 10; (focus rfl); (focus exact wt); (focus rfl); (focus (exact opr_buildSlice rfl rfl rfl (by exact blda) rfl rfl (by decide) rfl)); (rintro _ _ ⟨q, rfl, rfl⟩))))
      refine run_os wt rfl (by first | exact opr_append_lit0 (fN) [i] rfl rfl rfl (by exact pka) (by rfl) (by rfl) (by intro _; rfl) (by (first | exact one_fS | exact one_fI | exact one_fB | exact one_fP | exact one_fIIS | exact one_fIIIS | exact one_fII | exact one_fSI | exact one_fIIU | exact one_fY | exact one_fBl | exact one_fT | exact one_fE | assumption)) rfl (by simp only [List.length_cons, List.length_nil]; omega) (by (unfold maxLen); simp only [List.length_cons, List.length_nil]; omega) | exact opr_append_lit (fN) [i] rfl rfl rfl (by exact pka) (by exact pka) (by rfl) (by rfl) (by first | rfl | omega) (by intro _; rfl) (by (first | exact one_fS | exact one_fI | exact one_fB | exact one_fP | exact one_fIIS | exact one_fIIIS | exact one_fII | exact one_fSI | exact one_fIIU | exact one_fY | exact one_fBl | exact one_fT | exact one_fE | assumption)) rfl (by simp only [List.length_cons, List.length_nil]; omega) (by (unfold maxLen); simp only [List.length_cons, List.length_nil]; omega)) ?_
      rintro _ _ ⟨q6, c6, rfl, rfl⟩
      (repeat' (first | (apply run_qg 1; (focus rfl); (focus exact wt); (focus rfl); (focus (exact qg1))) | (apply run_qg 4; (focus rfl); (focus exact wt); (focus rfl); (focus (first | exact qg4 | exact qs4))) | refine cod_region ?_ | refine run_nil ?_ | refine pst_then ?_ | refine pst_block ?_))
      refine pst_again ((i + n, (pre ++ [v], q5, c5), (ats ++ [i], q6, c6))) ?_ (FSub.of (by (try dsimp only); exact fsa)) (by (try dsimp only); exact hsa) ?_
      · refine ⟨⟨by dsimp only; omega, ?_⟩, ⟨?_, ?_⟩, ?_, ?_⟩
        · dsimp only
          rw [hpre, hd1, List.append_assoc]
          rfl
        · dsimp only
          rw [List.length_append, List.length_singleton]
          exact hat.symm
        · dsimp only
          rw [List.length_append, List.length_singleton]
          exact hn1.symm
        · dsimp only
          rw [List.length_append, List.length_singleton]
          omega
        · dsimp only
          rw [List.length_append, List.length_singleton, List.length_append, List.length_singleton]
          omega
      · dsimp only; omega
  · have hil : i = s.length := by omega
    have hz : sigs (s.drop i) = [] := by rw [List.drop_of_length_le (by omega), sigs_nil]
    rw [hz, List.append_nil] at hpre
    subst hpre
    subst ha
    (repeat' (first | (apply run_qg 1; (focus rfl); (focus exact wt); (focus rfl); (focus (exact qg1))) | (apply run_qg 4; (focus rfl); (focus exact wt); (focus rfl); (focus (first | exact qg4 | exact qs4))) | (apply run_qg 6; (focus rfl); (focus exact wt); (focus rfl); (focus (first | exact qs6 | exact qg6 | exact q_max rfl rfl rfl | exact q_sliceData rfl rfl (by omega) | exact q_sliceDataN rfl rfl | exact q_unsafeStringN rfl rfl rfl | exact q_cap_slice rfl rfl))) | refine cod_seq ?_ | refine cod_region ?_ | refine run_nil ?_ | refine pst_then ?_ | (apply cod_cond_f; (focus rfl)) | refine cod_exit ?_ | refine pst_block_here ?_ | refine pst_then_exit ?_ | (apply run_osg 10; (focus rfl); (focus exact wt); (focus rfl); (focus (exact opr_buildSlice rfl rfl rfl (by exact blda) rfl rfl (by decide) rfl)); (rintro _ _ ⟨q, rfl, rfl⟩))))
    refine run_os wt rfl (by first | exact opr_append_lit0 (fN) [s.length] rfl rfl rfl (by exact pka) (by rfl) (by rfl) (by intro _; rfl) (by (first | exact one_fS | exact one_fI | exact one_fB | exact one_fP | exact one_fIIS | exact one_fIIIS | exact one_fII | exact one_fSI | exact one_fIIU | exact one_fY | exact one_fBl | exact one_fT | exact one_fE | assumption)) rfl (by simp only [List.length_cons, List.length_nil]; omega) (by (unfold maxLen); simp only [List.length_cons, List.length_nil]; omega) | exact opr_append_lit (fN) [s.length] rfl rfl rfl (by exact pka) (by exact pka) (by rfl) (by rfl) (by first | rfl | omega) (by intro _; rfl) (by (first | exact one_fS | exact one_fI | exact one_fB | exact one_fP | exact one_fIIS | exact one_fIIIS | exact one_fII | exact one_fSI | exact one_fIIU | exact one_fY | exact one_fBl | exact one_fT | exact one_fE | assumption)) rfl (by simp only [List.length_cons, List.length_nil]; omega) (by (unfold maxLen); simp only [List.length_cons, List.length_nil]; omega)) ?_
    rintro _ _ ⟨q6, c6, rfl, rfl⟩
    have hz1 : (atsN S S.length ++ [s.length]).length = S.length + 1 := by rw [List.length_append, hal, List.length_singleton]
    rw [hz1]
    (repeat' (first | (apply run_qg 1; (focus rfl); (focus exact wt); (focus rfl); (focus (exact qg1))) | refine run_nil ?_ | refine pst_then ?_ | refine cod_ret ?_))
    exact pst_fin rfl (by exact resa) _ (⟨q0, c, q6, c6, rfl, rfl⟩) (by exact hsa)
end Go.Proofs.YtcbpeampjhegcaaDoor.glob
