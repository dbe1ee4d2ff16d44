/-
  code.Write: the walk.
-/
import Derived.Test.YtnejhldagkennaaCodeRead
import Derived.Test.YtnejhldagkennaaFlip
namespace Go.Proofs.Ytnejhldagkennaa.code
open Go.RowKit kit sl lens flip
set_option linter.unusedVariables false
def fPc (p : Int × Int) : List Value := [.int .u64 p.1, .int .i64 p.2]
theorem one_fPc (p : Int × Int) : ∀ u ∈ fPc p, u.oneCell' = true := by simp [fPc, Value.oneCell']
theorem flip_ct (n w : Nat) (h1 : n < 18446744073709551616) (hw : w ≤ 64) : Ct Try.prog 39 [.int .u64 (n : Int), .int .i64 (w : Int)] [] fun v H' => v = .int .u64 ((flipN n w : Nat) : Int) ∧ H' = [] :=
  ct_of_calls fun W _ => (flip_any n w h1 W).mono fun e w' ⟨h1, h2⟩ => ⟨by rw [h1, show (max 0 (min 64 (w : Int))).toNat = w by omega], by rw [h2]; exact Below.refl _ _⟩
/-- a sign that has a code -/
def hasC (l : List Int) (x : Int) : Prop := 0 ≤ x ∧ l.getD x.toNat 0 ≠ 0
instance (l : List Int) (x : Int) : Decidable (hasC l x) := by unfold hasC; infer_instance
/-- the piece of a sign -/
def pieceC (l : List Int) (x : Int) : Int × Int := ((flipN (codeAt l x.toNat) (l.getD x.toNat 0).toNat : Nat), l.getD x.toNat 0)
def wrF (l : List Int) : List Int → List (Int × Int) → List (Int × Int) × Int
  | [], out => (out, 0)
  | x :: t, out => if hasC l x then wrF l t (out ++ [pieceC l x]) else ([], 1)
def writeV (l signs : List Int) : List (Int × Int) × Int := if canonE l = 0 then wrF l signs [] else ([], (canonE l : Int))
theorem code_bd {l : List Int} (h : l.length ≤ 320) (hb : ∀ x ∈ l, 0 ≤ x ∧ x ≤ 15) (i : Nat) : codeAt l i ≤ 41943360 := by
  rcases Nat.lt_or_ge i l.length with hi | hi
  · have hx : l[i]? = some l[i] := List.getElem?_eq_getElem hi
    obtain ⟨h0, h15⟩ := hb _ (List.getElem_mem hi)
    obtain ⟨m, hm⟩ := Int.eq_ofNat_of_zero_le h0
    rw [hm] at hx
    rcases Nat.eq_zero_or_pos m with hz | hp
    · subst hz
      rw [code_zero hx]; omega
    · rw [code_pos hx hp]
      exact nx_bd l h i m (by omega)
  · unfold codeAt
    rw [List.getElem?_eq_none hi]
    exact Nat.zero_le _
theorem codes_at (l : List Int) {i : Nat} (h : i < l.length) : (codes l)[i]? = some ((codeAt l i : Nat) : Int) := by
  unfold codes
  rw [List.getElem?_map, List.getElem?_range h]
  rfl
attribute [local irreducible] box own sl old bptr eptr Qt Opr Run Cod Pst Drn
set_option maxRecDepth 100000 in
set_option maxHeartbeats 8000000 in
theorem write_any (q qs : Option Addr) (c cs : Nat) (l signs : List Int) (hg : ∀ x ∈ l, (Lit.int .i64 x).wf = true) (hn : l.length ≤ 1000000000000000) (hs : signs.length ≤ 1000000) :
    Ct Try.prog 19 [.slice q l.length c, .slice qs signs.length cs] [sl 1 (.slice q l.length c) (l.map fI), sl 1 (.slice qs signs.length cs) (signs.map fI)]
      fun v H' => ∃ q2 c2, v = .tuple #[.slice q2 (writeV l signs).1.length c2, .int .i64 (writeV l signs).2] ∧ H' = [own (.slice q2 (writeV l signs).1.length c2) 49 2 (writeV l signs).1.length (flat fPc (writeV l signs).1)] := by
  have C0 := canon_ct q c l hg hn
  by_cases hc : canonE l = 0
  · obtain ⟨hl, hb⟩ := canon_good hc
    have e : writeV l signs = wrF l signs [] := by unfold writeV; rw [if_pos hc]
    rw [e]
    have C1 : Ct Try.prog 35 [.slice q l.length c] [sl 1 (.slice q l.length c) (l.map fI)] fun v H' => ∃ q c, v = .tuple #[.slice q l.length c, .int .i64 0] ∧ H' = [own (.slice q l.length c) 3 1 l.length (flat fI (codes l))] := ct_mono C0 fun v H' h => by
      rcases h with ⟨h1, _⟩ | ⟨_, h2⟩
      · exact absurd hc h1
      · exact h2
    have hcl := codes_len l
    have hca := fun i => codes_at l (i := i)
    obtain ⟨r, hr⟩ : ∃ r, wrF l signs [] = r := ⟨_, rfl⟩
    rw [hr]
    (refine spec_enter Try.func19 Try.ntmps19 rfl rfl fun Fr => ?_; dsimp only [List.cons_append, List.nil_append, ini, Nat.reduceAdd])
    (repeat' (first | (apply run_qg 1; (focus rfl); (focus exact wt); (focus rfl); (focus (exact qg1))) | refine cod_seq ?_ | refine cod_region ?_ | refine run_nil ?_ | refine pst_then ?_))
    (refine run_os wt rfl (opr_call_l rfl (C1) rfl (by exact lpa)) ?_; rintro _ _ ⟨_, ⟨q1, c1, rfl, rfl⟩, rfl⟩; dsimp only [List.cons_append, List.nil_append])
    (repeat' (first | (apply run_qg 1; (focus rfl); (focus exact wt); (focus rfl); (focus (exact qg1))) | (apply run_qg 4; (focus rfl); (focus exact wt); (focus rfl); (focus (first | exact qg4 | exact qs4))) | (apply run_qg 6; (focus rfl); (focus exact wt); (focus rfl); (focus (first | exact qs6 | exact qg6 | exact q_max rfl rfl rfl | exact q_sliceData rfl rfl (by omega) | exact q_sliceDataN rfl rfl | exact q_unsafeStringN rfl rfl rfl | exact q_cap_slice rfl rfl))) | refine cod_seq ?_ | refine cod_region ?_ | refine run_nil ?_ | refine pst_then ?_ | (apply cod_cond_f; (focus rfl)) | refine cod_block ?_ | refine cod_skip ?_))
    refine cod_heap (heap_nil _ 49 2) ?_
    (refine cod_loop_rw (σ := Nat × Option Addr × Nat × List (Int × Int)) (fun x => x.1 ≤ signs.length ∧ x.2.2.2.length = x.1 ∧ wrF l (signs.drop x.1) x.2.2.2 = r) (fun x => [(21, .int .i64 (x.1 : Int)), (8, .slice x.2.1 x.2.2.2.length x.2.2.1)]) (fun x => [own (.slice x.2.1 x.2.2.2.length x.2.2.1) 49 2 x.2.2.2.length (flat fPc x.2.2.2)]) _ (fun x => signs.length - x.1) ((0, none, 0, [])) (by exact ⟨Nat.zero_le _, rfl, hr⟩) (by exact fsa) (by (first | exact HSub.of_picks_rest (by exact pca))) (fun ⟨i, q3, c3, out⟩ ⟨hi, hol, hwr⟩ => ?_); dsimp only [List.cons_append, List.nil_append])
    dsimp only at hi hol hwr ⊢
    rcases Nat.lt_or_ge i signs.length with hlt | hge
    · obtain ⟨x, hx⟩ : ∃ x, signs[i]? = some x := ⟨_, List.getElem?_eq_getElem hlt⟩
      have hdr : signs.drop i = x :: signs.drop (i + 1) := by
        rw [List.drop_eq_getElem_cons hlt]
        have : signs[i] = x := (List.getElem?_eq_some_iff.1 hx).2
        rw [this]
      rw [hdr, wrF] at hwr
      by_cases hh : hasC l x
      · rw [if_pos hh] at hwr
        obtain ⟨h0, h1⟩ := hh
        obtain ⟨j, rfl⟩ := Int.eq_ofNat_of_zero_le h0
        have hjl : j < l.length := by
          rcases Nat.lt_or_ge j l.length with h | h
          · exact h
          · rw [Int.toNat_natCast, List.getD_eq_getElem?_getD, List.getElem?_eq_none h] at h1
            exact absurd rfl h1
        obtain ⟨y, hy⟩ : ∃ y, l[j]? = some y := ⟨_, List.getElem?_eq_getElem hjl⟩
        have hyd : l.getD j 0 = y := by rw [List.getD_eq_getElem?_getD, hy]; rfl
        obtain ⟨y0, y15⟩ := hb y (List.mem_of_getElem? hy)
        obtain ⟨m, rfl⟩ := Int.eq_ofNat_of_zero_le y0
        rw [Int.toNat_natCast, hyd] at h1
        have hcb := code_bd hl hb j
        have hcj := hca j hjl
        have F0 := flip_ct (codeAt l j) m (by omega) (by omega)
        have hpc : pieceC l (j : Int) = (((flipN (codeAt l j) m : Nat) : Int), (m : Int)) := by
          unfold pieceC
          rw [Int.toNat_natCast, hyd, Int.toNat_natCast]
        rw [hpc] at hwr
        have hm0 : ¬ ((m : Int) = 0) := h1
        generalize codeAt l j = cj at *
        have hone : ∀ y, ∀ u ∈ fPc y, u.oneCell' = true := one_fPc
        (repeat' (first | (apply run_qg 1; (focus rfl); (focus exact wt); (focus rfl); (focus (exact qg1))) | (apply run_qg 2; (focus rfl); (focus exact wt); (focus rfl); (focus (first | exact qg2 | exact qs2))) | (apply run_qg 3; (focus rfl); (focus exact wt); (focus rfl); (focus (first | exact qg3 | exact qs3))) | (apply run_qg 4; (focus rfl); (focus exact wt); (focus rfl); (focus (first | exact qg4 | exact qs4))) | (apply run_qg 6; (focus rfl); (focus exact wt); (focus rfl); (focus (first | exact qs6 | exact qg6 | exact q_max rfl rfl rfl | exact q_sliceData rfl rfl (by omega) | exact q_sliceDataN rfl rfl | exact q_unsafeStringN rfl rfl rfl | exact q_cap_slice rfl rfl))) | refine cod_seq ?_ | refine cod_region ?_ | refine run_nil ?_ | refine pst_then ?_ | (apply cod_cond_t; (focus rfl)) | (apply cod_cond_f; (focus rfl)) | refine cod_block ?_ | refine cod_skip ?_))
        (refine cod_drawn_ks (Hq := [_, _]) [1, 2] [] rfl (by kernel_rfl) (by simp only [List.length_cons, List.length_nil, Nat.reduceAdd]; rfl) ?_)
        (repeat' (first | (apply drnK_take 1; (focus rfl); (focus rfl); (focus exact wt); (focus (decide +kernel)); (focus exact hsq); (focus rfl); (focus (exact qg1))) | (apply drnK_take 2; (focus rfl); (focus rfl); (focus exact wt); (focus (decide +kernel)); (focus exact hsq); (focus rfl); (focus (first | exact qg2 | exact qs2))) | (apply drnK_take 3; (focus rfl); (focus rfl); (focus exact wt); (focus (decide +kernel)); (focus exact hsq); (focus rfl); (focus (first | exact qg3 | exact qs3))) | (apply drnK_take 5; (focus rfl); (focus rfl); (focus exact wt); (focus (decide +kernel)); (focus exact hsq); (focus rfl); (focus (exact qg5))) | (apply drnK_take 11; (focus rfl); (focus rfl); (focus exact wt); (focus (decide +kernel)); (focus exact hsq); (focus rfl); (focus (exact qs11))) | (apply drnK_done; (focus (decide +kernel))) | (apply drnK_ones 7; (focus rfl); (focus rfl); (focus (decide +kernel)); (focus exact wt); (focus rfl); (focus (exact opr_call_ls (by rfl) (F0 ..) (by rfl) lpa)); (rintro _ _ ⟨rfl, rfl⟩; refine ⟨(by first | exact fun h => absurd h (by decide) | exact fun _ => hsq), ?_⟩)) | (apply drnK_skip; (focus rfl)) | (apply drnK_wrap; (focus rfl))))
        (refine drnK_at 16 ?_; (first | refine drnK_ones _ (by rfl) (by rfl) (by kernel_rfl) wt (by rfl) (by exact opr_buildSlice rfl rfl rfl (by exact blda) rfl rfl (by decide) rfl) ?_ | refine drnK_onen _ (by rfl) (by rfl) (by kernel_rfl) wt (by exact opr_buildSlice rfl rfl rfl (by exact blda) rfl rfl (by decide) rfl) ?_); rintro _ _ ⟨q9, rfl, rfl⟩; refine ⟨(by first | exact fun h => absurd h (by decide) | exact fun _ => hsq), ?_⟩; (try dsimp only [List.cons_append, List.nil_append]))
        (refine drnK_at 17 ?_; (first | refine drnK_ones _ (by rfl) (by rfl) (by kernel_rfl) wt (by rfl) (by exact (by first | exact opr_append_lit0 (fPc) [(((flipN cj m : Nat) : Int), (m : Int))] rfl rfl rfl (by exact pka) (by rfl) (by rfl) (by intro _; rfl) (by (first | exact one_fS | exact one_fI | exact one_fB | exact one_fP | exact one_fIIS | exact one_fIIIS | exact one_fII | exact one_fSI | exact one_fIIU | exact one_fY | exact one_fBl | exact one_fT | exact one_fE | assumption)) rfl (by simp only [List.length_cons, List.length_nil]; omega) (by (unfold maxLen); simp only [List.length_cons, List.length_nil]; omega) | exact opr_append_lit (fPc) [(((flipN cj m : Nat) : Int), (m : Int))] rfl rfl rfl (by exact pka) (by exact pka) (by rfl) (by rfl) (by first | rfl | omega) (by intro _; rfl) (by (first | exact one_fS | exact one_fI | exact one_fB | exact one_fP | exact one_fIIS | exact one_fIIIS | exact one_fII | exact one_fSI | exact one_fIIU | exact one_fY | exact one_fBl | exact one_fT | exact one_fE | assumption)) rfl (by simp only [List.length_cons, List.length_nil]; omega) (by (unfold maxLen); simp only [List.length_cons, List.length_nil]; omega))) ?_ | refine drnK_onen _ (by rfl) (by rfl) (by kernel_rfl) wt (by exact (by first | exact opr_append_lit0 (fPc) [(((flipN cj m : Nat) : Int), (m : Int))] rfl rfl rfl (by exact pka) (by rfl) (by rfl) (by intro _; rfl) (by (first | exact one_fS | exact one_fI | exact one_fB | exact one_fP | exact one_fIIS | exact one_fIIIS | exact one_fII | exact one_fSI | exact one_fIIU | exact one_fY | exact one_fBl | exact one_fT | exact one_fE | assumption)) rfl (by simp only [List.length_cons, List.length_nil]; omega) (by (unfold maxLen); simp only [List.length_cons, List.length_nil]; omega) | exact opr_append_lit (fPc) [(((flipN cj m : Nat) : Int), (m : Int))] rfl rfl rfl (by exact pka) (by exact pka) (by rfl) (by rfl) (by first | rfl | omega) (by intro _; rfl) (by (first | exact one_fS | exact one_fI | exact one_fB | exact one_fP | exact one_fIIS | exact one_fIIIS | exact one_fII | exact one_fSI | exact one_fIIU | exact one_fY | exact one_fBl | exact one_fT | exact one_fE | assumption)) rfl (by simp only [List.length_cons, List.length_nil]; omega) (by (unfold maxLen); simp only [List.length_cons, List.length_nil]; omega))) ?_); rintro _ _ ⟨q4, c4, rfl, rfl⟩; refine ⟨(by first | exact fun h => absurd h (by decide) | exact fun _ => hsq), ?_⟩; (try dsimp only [List.cons_append, List.nil_append]))
        (repeat' (first | (apply run_qg 1; (focus rfl); (focus exact wt); (focus rfl); (focus (exact qg1))) | (apply run_qg 4; (focus rfl); (focus exact wt); (focus rfl); (focus (first | exact qg4 | exact qs4))) | refine cod_region ?_ | refine run_nil ?_ | refine pst_then ?_ | refine pst_block ?_ | (apply drnK_take 1; (focus rfl); (focus rfl); (focus exact wt); (focus (decide +kernel)); (focus exact hsq); (focus rfl); (focus (exact qg1))) | (apply drnK_end; (focus (decide +kernel)))))
        refine pst_again ((i + 1, q4, c4, out ++ [(((flipN cj m : Nat) : Int), (m : Int))])) ?_ (FSub.of (by (try dsimp only); exact fsa)) (by (try dsimp only); exact hsa) ?_
        · exact ⟨hlt, by dsimp only; rw [List.length_append, List.length_singleton, hol], hwr⟩
        · dsimp only; omega
      · rw [if_neg hh] at hwr
        subst hwr
        by_cases hx0 : x < 0
        · (repeat' (first | (apply run_qg 1; (focus rfl); (focus exact wt); (focus rfl); (focus (exact qg1))) | (apply run_qg 2; (focus rfl); (focus exact wt); (focus rfl); (focus (first | exact qg2 | exact qs2))) | (apply run_qg 3; (focus rfl); (focus exact wt); (focus rfl); (focus (first | exact qg3 | exact qs3))) | (apply run_qg 4; (focus rfl); (focus exact wt); (focus rfl); (focus (first | exact qg4 | exact qs4))) | refine cod_seq ?_ | refine cod_region ?_ | refine run_nil ?_ | refine pst_then ?_ | (apply cod_cond_t; (focus rfl)) | refine cod_block ?_ | refine cod_ret ?_ | refine cod_skip ?_ | refine pst_block_ret ?_ | refine pst_then_ret ?_ | (apply run_offs; (focus rfl); (focus rfl); (focus rfl))))
          exact pst_fin rfl (by exact resa) _ (⟨none, 0, rfl, rfl⟩) (by exact hsa)
        · obtain ⟨j, rfl⟩ := Int.eq_ofNat_of_zero_le (by omega : 0 ≤ x)
          rcases Nat.lt_or_ge j l.length with hjl | hjl
          · obtain ⟨y, hy⟩ : ∃ y, l[j]? = some y := ⟨_, List.getElem?_eq_getElem hjl⟩
            have hyd : l.getD j 0 = y := by rw [List.getD_eq_getElem?_getD, hy]; rfl
            have hy0 : y = 0 := by
              unfold hasC at hh
              rw [Int.toNat_natCast, hyd] at hh
              exact Decidable.byContradiction fun h => hh ⟨by omega, h⟩
            subst hy0
            (repeat' (first | (apply run_qg 1; (focus rfl); (focus exact wt); (focus rfl); (focus (exact qg1))) | (apply run_qg 2; (focus rfl); (focus exact wt); (focus rfl); (focus (first | exact qg2 | exact qs2))) | (apply run_qg 3; (focus rfl); (focus exact wt); (focus rfl); (focus (first | exact qg3 | exact qs3))) | (apply run_qg 4; (focus rfl); (focus exact wt); (focus rfl); (focus (first | exact qg4 | exact qs4))) | (apply run_qg 6; (focus rfl); (focus exact wt); (focus rfl); (focus (first | exact qs6 | exact qg6 | exact q_max rfl rfl rfl | exact q_sliceData rfl rfl (by omega) | exact q_sliceDataN rfl rfl | exact q_unsafeStringN rfl rfl rfl | exact q_cap_slice rfl rfl))) | refine cod_seq ?_ | refine cod_region ?_ | refine run_nil ?_ | refine pst_then ?_ | (apply cod_cond_t; (focus rfl)) | refine cod_block ?_ | refine cod_ret ?_ | refine cod_skip ?_ | refine pst_block_ret ?_ | refine pst_then_ret ?_))
            exact pst_fin rfl (by exact resa) _ (⟨none, 0, rfl, rfl⟩) (by exact hsa)
          · (repeat' (first | (apply run_qg 1; (focus rfl); (focus exact wt); (focus rfl); (focus (exact qg1))) | (apply run_qg 2; (focus rfl); (focus exact wt); (focus rfl); (focus (first | exact qg2 | exact qs2))) | (apply run_qg 3; (focus rfl); (focus exact wt); (focus rfl); (focus (first | exact qg3 | exact qs3))) | (apply run_qg 4; (focus rfl); (focus exact wt); (focus rfl); (focus (first | exact qg4 | exact qs4))) | (apply run_qg 6; (focus rfl); (focus exact wt); (focus rfl); (focus (first | exact qs6 | exact qg6 | exact q_max rfl rfl rfl | exact q_sliceData rfl rfl (by omega) | exact q_sliceDataN rfl rfl | exact q_unsafeStringN rfl rfl rfl | exact q_cap_slice rfl rfl))) | refine cod_seq ?_ | refine cod_region ?_ | refine run_nil ?_ | refine pst_then ?_ | (apply cod_cond_t; (focus rfl)) | refine cod_block ?_ | refine cod_ret ?_ | refine cod_skip ?_ | refine pst_block_ret ?_ | refine pst_then_ret ?_ | (apply run_offs; (focus rfl); (focus rfl); (focus rfl))))
            exact pst_fin rfl (by exact resa) _ (⟨none, 0, rfl, rfl⟩) (by exact hsa)
    · have hil : i = signs.length := by omega
      subst hil
      rw [List.drop_length, wrF] at hwr
      subst hwr
      (repeat' (first | (apply run_qg 1; (focus rfl); (focus exact wt); (focus rfl); (focus (exact qg1))) | (apply run_qg 4; (focus rfl); (focus exact wt); (focus rfl); (focus (first | exact qg4 | exact qs4))) | refine cod_seq ?_ | refine cod_region ?_ | refine run_nil ?_ | refine pst_then ?_ | (apply cod_cond_f; (focus rfl)) | refine cod_exit ?_ | refine cod_ret ?_ | refine pst_block_here ?_ | refine pst_then_exit ?_))
      exact pst_fin rfl (by exact resa) _ (⟨q3, c3, rfl, rfl⟩) (by exact hsa)
  · have e : writeV l signs = ([], (canonE l : Int)) := by unfold writeV; rw [if_neg hc]
    rw [e]
    have C1 : Ct Try.prog 35 [.slice q l.length c] [sl 1 (.slice q l.length c) (l.map fI)] fun v H' => v = .tuple #[.slice none 0 0, .int .i64 (canonE l : Int)] ∧ H' = [] := ct_mono C0 fun v H' h => by
      rcases h with ⟨_, h2⟩ | ⟨h1, _⟩
      · exact h2
      · exact absurd h1 hc
    generalize canonE l = ce at *
    (refine spec_enter Try.func19 Try.ntmps19 rfl rfl fun Fr => ?_; dsimp only [List.cons_append, List.nil_append, ini, Nat.reduceAdd])
    (repeat' (first | (apply run_qg 1; (focus rfl); (focus exact wt); (focus rfl); (focus (exact qg1))) | (apply run_qg 4; (focus rfl); (focus exact wt); (focus rfl); (focus (first | exact qg4 | exact qs4))) | refine cod_seq ?_ | refine cod_region ?_ | refine run_nil ?_ | refine pst_then ?_ | (apply cod_cond_t; (focus rfl)) | refine cod_ret ?_ | refine pst_then_ret ?_ | (apply run_osg 7; (focus rfl); (focus exact wt); (focus rfl); (focus (exact opr_call_ls (by rfl) (C1 ..) (by rfl) lpa)); (rintro _ _ ⟨rfl, rfl⟩))))
    exact pst_fin rfl (by exact resa) _ (⟨none, 0, rfl, rfl⟩) (by exact hsa)
end Go.Proofs.Ytnejhldagkennaa.code
