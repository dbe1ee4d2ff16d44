/-
  HuffFlat: the walk (printed by gen_huffflat.py). (SAFE)
-/
import Derived.Test.YtjkpijlfdbefiaaFlatLaw
import Derived.Test.YtjkpijlfdbefiaaWithin
import Derived.Test.YtjkpijlfdbefiaaOpen2
namespace Go.Proofs.Ytjkpijlfdbefiaa.lawHuffFlat
open Go.RowKit kit sl Go.Proofs.Ytjkpijlfdbefiaa.huff Go.Proofs.Ytjkpijlfdbefiaa.pm Go.Proofs.Ytjkpijlfdbefiaa.within
set_option linter.unusedVariables false
def KK (b : Nat) (k : Int) : Ent := fro (box b [.int .i64 k] 3)
theorem KK_x (b : Nat) (k : Int) : (KK b k).excl = false := rfl
theorem view_kk {S R : List Ent} {b : Nat} {k : Int} (p : Pick (box b [.int .i64 k] 3) S R) : View S (KK b k) := ⟨rfl, fun w hw => by
  have h := hw.1 _ p.mem
  exact h, fun j hj => ⟨_, p.mem, hj⟩⟩
theorem view_kk2 {S R : List Ent} {b : Nat} {k : Int} (p : Pick (KK b k) S R) : View S (KK b k) := View.same p rfl
theorem within_ct (k n : Int) (h1 : 1 ≤ n) (h2 : n ≤ 9223372036854775807) : Ct Try.prog 19 [.int .i64 k, .int .i64 n] [] fun v H' => v = .int .i64 (withinF k n) ∧ H' = [] :=
  ct_of_calls fun W _ => (within_any k n h1 h2 W).mono fun e w' ⟨h1, h2⟩ => ⟨h1, by rw [← h2]; exact Below.refl _ _⟩
theorem fill_set {N i : Nat} (f : Int) (h : i < N) : (List.replicate i f ++ List.replicate (N - i) 0).set i f = List.replicate (i + 1) f ++ List.replicate (N - (i + 1)) 0 := by
  have e : N - i = (N - (i + 1)) + 1 := by omega
  rw [e, List.replicate_succ, hsort.set_mid _ _ _ _ List.length_replicate, List.replicate_succ', List.append_assoc]
  rfl
theorem fill_get {N i : Nat} (f : Int) (h : i < N) : (List.replicate i f ++ List.replicate (N - i) (0 : Int))[i]? = some 0 := by
  have e : N - i = (N - (i + 1)) + 1 := by omega
  rw [e, List.replicate_succ]
  exact hsort.get_mid _ _ _ List.length_replicate
attribute [local irreducible] box own sl old bptr eptr Qt Opr Run Cod Pst Drn
set_option maxRecDepth 100000 in
set_option maxHeartbeats 8000000 in
theorem pow2_any (k : Nat) (hk : k ≤ 40) : Ct Try.prog 18 [.int .i64 (k : Int)] [] fun v H' => v = .int .i64 ((2 ^ k : Nat) : Int) ∧ H' = [] := by
  (refine spec_enter Try.func18 Try.ntmps18 rfl rfl fun Fr => ?_; dsimp only [List.cons_append, List.nil_append, ini, Nat.reduceAdd])
  (repeat' (first | (apply run_qg 1; (focus rfl); (focus exact wt); (focus rfl); (focus (exact qg1))) | refine cod_seq ?_ | refine cod_region ?_ | refine run_nil ?_ | refine pst_then ?_ | refine cod_block ?_ | fail))
  (refine cod_loop_ro (σ := Nat × Nat) (fun s => s.1 ≤ k ∧ s.2 = 2 ^ s.1) (fun s => [(5, .int .i64 (s.1 : Int)), (3, .int .i64 (s.2 : Int))]) (fun s => k - s.1) ((0, 1)) (by exact ⟨Nat.zero_le _, rfl⟩) (by exact fsa) (fun ⟨i, p0⟩ ⟨hi, hp0⟩ => ?_); dsimp only [List.cons_append, List.nil_append])
  dsimp only at hi hp0
  have hp : p0 ≤ 1099511627776 := hp0 ▸ Nat.le_trans (Nat.pow_le_pow_right (by decide) (by omega : i ≤ 40)) (by decide)
  rcases Nat.lt_or_ge i k with hlt | hge
  · have e : ((2 ^ i : Nat) : Int) * 2 = ((2 ^ (i + 1) : Nat) : Int) := by rw [Nat.pow_succ]; omega
    rw [← hp0] at e
    obtain ⟨p1, hp1⟩ : ∃ p1, p1 = 2 ^ (i + 1) := ⟨_, rfl⟩
    rw [← hp1] at e
    (repeat' (first | (apply run_qg 1; (focus rfl); (focus exact wt); (focus rfl); (focus (exact qg1))) | (apply run_qg 4; (focus rfl); (focus exact wt); (focus rfl); (focus (first | exact qg4 | exact qs4))) | refine cod_seq ?_ | refine cod_region ?_ | refine run_nil ?_ | refine pst_then ?_ | (apply cod_cond_t; (focus rfl)) | refine cod_block ?_ | refine cod_skip ?_ | refine pst_block ?_ | fail))
    (try rw [e])
    (try rw [show (2 : Int) * (p0 : Int) = (p1 : Int) by omega])
    refine pst_again ((i + 1, p1)) ?_ (FSub.of (by (try dsimp only); exact fsa)) (by (try dsimp only); exact hsa) ?_
    · exact ⟨hlt, hp1⟩
    · dsimp only; omega
  · have hik : i = k := by omega
    subst hik
    subst hp0
    generalize 2 ^ i = p0 at *
    (repeat' (first | (apply run_qg 1; (focus rfl); (focus exact wt); (focus rfl); (focus (exact qg1))) | (apply run_qg 4; (focus rfl); (focus exact wt); (focus rfl); (focus (first | exact qg4 | exact qs4))) | refine cod_seq ?_ | refine cod_region ?_ | refine run_nil ?_ | refine pst_then ?_ | (apply cod_cond_f; (focus rfl)) | refine cod_exit ?_ | refine cod_ret ?_ | refine pst_block_here ?_ | refine pst_then_exit ?_ | fail))
    exact pst_fin rfl (by exact resa) _ (⟨rfl, rfl⟩) (by exact hsa)
set_option maxRecDepth 100000 in
set_option maxHeartbeats 8000000 in
theorem not_any (b : Nat) (k : Int) : Ct Try.prog 21 [.int .i64 k, bptr b 0] [KK b k] fun v H' => v = .bool false ∧ H' = [] := by
  (refine spec_enter Try.func21 Try.ntmps21 rfl rfl fun Fr => ?_; dsimp only [List.cons_append, List.nil_append, ini, Nat.reduceAdd])
  (repeat' (first | (apply run_qg 1; (focus rfl); (focus exact wt); (focus rfl); (focus (exact qg1))) | refine cod_seq ?_ | refine cod_region ?_ | refine run_nil ?_ | refine pst_then ?_ | fail))
  unfold KK
  refine run_qs wt rfl (hsort.q_load_fro rfl rfl pka) ?_
  (repeat' (first | (apply run_qg 1; (focus rfl); (focus exact wt); (focus rfl); (focus (exact qg1))) | (apply run_qg 4; (focus rfl); (focus exact wt); (focus rfl); (focus (first | exact qg4 | exact qs4))) | refine run_nil ?_ | refine pst_then ?_ | refine cod_ret ?_ | fail))
  exact pst_fin rfl (by exact resa) _ (⟨rfl, rfl⟩) (by exact hsa)
set_option maxRecDepth 100000 in
set_option maxHeartbeats 8000000 in
theorem index_none (q : Option Addr) (c b n : Nat) (k : Int) (hn : n ≤ 1000000) :
    Ct Try.prog 32 [.slice q n c, .func (.func 21) #[] #[bptr b 0]] [sl 1 (.slice q n c) ((List.replicate n k).map fI), KK b k] fun v H' => v = .int .i64 (-1) ∧ H' = [] := by
  have hrl : (List.replicate n k).length = n := List.length_replicate
  have hra : ∀ i, i < n → (List.replicate n k)[i]? = some k := fun i hi => by rw [List.getElem?_replicate, if_pos hi]
  have NT := not_any b k
  generalize List.replicate n k = X at *
  (refine spec_enter Try.func32 Try.ntmps32 rfl rfl fun Fr => ?_; dsimp only [List.cons_append, List.nil_append, ini, Nat.reduceAdd])
  (repeat' (first | (apply run_qg 1; (focus rfl); (focus exact wt); (focus rfl); (focus (exact qg1))) | (apply run_qg 6; (focus rfl); (focus exact wt); (focus rfl); (focus (first | exact qs6 | exact qg6 | exact q_max rfl rfl rfl | exact q_sliceData rfl rfl (by omega) | exact q_sliceDataN rfl rfl | exact q_unsafeStringN rfl rfl rfl | exact q_cap_slice rfl rfl))) | refine cod_seq ?_ | refine cod_region ?_ | refine run_nil ?_ | refine pst_then ?_ | refine cod_block ?_ | fail))
  (refine cod_loop_ro (σ := Nat) (fun i => i ≤ n) (fun i => [(8, .int .i64 (i : Int))]) (fun i => n - i) (0) (by exact Nat.zero_le _) (by exact fsa) (fun i hi => ?_); dsimp only [List.cons_append, List.nil_append])
  rcases Nat.lt_or_ge i n with hlt | hge
  · have hx := hra i hlt
    clear hra
    (repeat' (first | (apply run_qg 1; (focus rfl); (focus exact wt); (focus rfl); (focus (exact qg1))) | (apply run_qg 2; (focus rfl); (focus exact wt); (focus rfl); (focus (first | exact qg2 | exact qs2))) | (apply run_qg 3; (focus rfl); (focus exact wt); (focus rfl); (focus (first | exact qg3 | exact qs3))) | (apply run_qg 4; (focus rfl); (focus exact wt); (focus rfl); (focus (first | exact qg4 | exact qs4))) | refine cod_seq ?_ | refine cod_region ?_ | refine run_nil ?_ | refine pst_then ?_ | (apply cod_cond_t; (focus rfl)) | refine cod_block ?_ | refine cod_skip ?_ | fail))
    refine run_os wt rfl (opr_callv_ls (first := []) (cap := [bptr b 0]) rfl rfl rfl NT rfl (Lp.view (KK_x b k) Lp.nil (view_kk2 pka))) ?_
    rintro _ _ ⟨rfl, rfl⟩
    (repeat' (first | (apply run_qg 1; (focus rfl); (focus exact wt); (focus rfl); (focus (exact qg1))) | (apply run_qg 4; (focus rfl); (focus exact wt); (focus rfl); (focus (first | exact qg4 | exact qs4))) | refine cod_region ?_ | refine run_nil ?_ | refine pst_then ?_ | (apply cod_cond_f; (focus rfl)) | refine cod_skip ?_ | refine pst_block ?_ | fail))
    refine pst_again (i + 1) ?_ (FSub.of (by (try dsimp only); exact fsa)) (by (try dsimp only); exact hsa) ?_
    · exact hlt
    · omega
  · (repeat' (first | (apply run_qg 1; (focus rfl); (focus exact wt); (focus rfl); (focus (exact qg1))) | (apply run_qg 4; (focus rfl); (focus exact wt); (focus rfl); (focus (first | exact qg4 | exact qs4))) | refine cod_seq ?_ | refine cod_region ?_ | refine run_nil ?_ | refine pst_then ?_ | (apply cod_cond_f; (focus rfl)) | refine cod_exit ?_ | refine cod_ret ?_ | refine pst_block_here ?_ | refine pst_then_exit ?_ | fail))
    exact pst_fin rfl (by exact resa) _ (⟨rfl, rfl⟩) (by exact hsa)
set_option maxRecDepth 100000 in
set_option maxHeartbeats 8000000 in
theorem contains_none (q : Option Addr) (c b n : Nat) (k : Int) (hn : n ≤ 1000000) :
    Ct Try.prog 20 [.slice q n c, .func (.func 21) #[] #[bptr b 0]] [sl 1 (.slice q n c) ((List.replicate n k).map fI), KK b k] fun v H' => v = .bool false ∧ H' = [] := by
  have IX := index_none q c b n k hn
  (refine spec_enter Try.func20 Try.ntmps20 rfl rfl fun Fr => ?_; dsimp only [List.cons_append, List.nil_append, ini, Nat.reduceAdd])
  (repeat' (first | (apply run_qg 1; (focus rfl); (focus exact wt); (focus rfl); (focus (exact qg1))) | refine cod_seq ?_ | refine cod_region ?_ | refine run_nil ?_ | refine pst_then ?_ | fail))
  refine run_os wt rfl (opr_call_ls rfl IX rfl (Lp.view (sl_excl _ _ _) (Lp.view (KK_x b k) Lp.nil (view_kk2 pka)) (View.same pka (sl_excl _ _ _)))) ?_
  rintro _ _ ⟨rfl, rfl⟩
  (repeat' (first | (apply run_qg 1; (focus rfl); (focus exact wt); (focus rfl); (focus (exact qg1))) | (apply run_qg 4; (focus rfl); (focus exact wt); (focus rfl); (focus (first | exact qg4 | exact qs4))) | refine run_nil ?_ | refine pst_then ?_ | refine cod_ret ?_ | fail))
  exact pst_fin rfl (by exact resa) _ (⟨rfl, rfl⟩) (by exact hsa)
theorem lens_even (q : Option Addr) (c k N : Nat) (f : Int) (hk : 1 ≤ k ∧ k ≤ 8) (hf : 1 ≤ f ∧ f ≤ 1048576) (hN : 2 ^ k = N) :
    Ct Try.prog 10 [.slice q N c, .int .i64 15] [sl 1 (.slice q N c) ((List.replicate N f).map fI)] fun v H' => ∃ q' c', v = .tuple #[.slice q' N c', .int .i64 0] ∧ H' = [own (.slice q' N c') 3 1 N (flat fI (List.replicate N (k : Int)))] := by
  subst hN
  obtain ⟨e1, e2⟩ := even_law hk hf
  have hl : (List.replicate (2 ^ k) f).length = 2 ^ k := List.length_replicate
  have hp8 : 2 ^ k ≤ 256 := Nat.le_trans (Nat.pow_le_pow_right (by decide) hk.2) (by decide)
  have LN := lens_any q c (List.replicate (2 ^ k) f) 15 (by omega)
  unfold LensR at LN
  rw [e2, hl] at LN
  refine ct_imp LN fun v H' h => ?_
  rcases h with ⟨_, h⟩ | ⟨h, _⟩
  · exact h
  · exact absurd e1 h
set_option maxRecDepth 100000 in
set_option maxHeartbeats 8000000 in
theorem law_bad (q : Option Addr) (c : Nat) (F : List Int) (most k f : Int) (hl : F.length ≤ 1000000000000000) (h : lensE F most ≠ 0) :
    Ct Try.prog 6 [.slice q F.length c, .int .i64 most, .int .i64 k, .int .i64 f] [sl 1 (.slice q F.length c) (F.map fI)] fun v H' => v = .bool true ∧ H' = [] := by
  have CA := cost_any q c F most hl
  have hk8 := withinF_bd k 8 (by decide)
  have hfm := withinF_bd f 1048576 (by decide)
  have W1 := within_ct k 8 (by decide) (by decide)
  have W2 := within_ct f 1048576 (by decide) (by decide)
  obtain ⟨kk, hkk⟩ : ∃ kk : Nat, 1 + withinF k 8 = (kk : Int) := ⟨(1 + withinF k 8).toNat, by omega⟩
  obtain ⟨ff, hff⟩ : ∃ ff, 1 + withinF f 1048576 = ff := ⟨_, rfl⟩
  have hk2 : 1 ≤ kk ∧ kk ≤ 8 := by omega
  have hf2 : 1 ≤ ff ∧ ff ≤ 1048576 := by omega
  obtain ⟨N, hN⟩ : ∃ N, 2 ^ kk = N := ⟨_, rfl⟩
  have hN8 : N ≤ 256 := by rw [← hN]; exact Nat.le_trans (Nat.pow_le_pow_right (by decide) hk2.2) (by decide)
  have hwr : IntKind.i64.wrap (1 * 2 ^ kk) = (N : Int) := by
    rw [Int.one_mul, show ((2 : Int) ^ kk) = ((2 ^ kk : Nat) : Int) by simp, hN]
    exact wr_i64 (by omega)
  have LE := fun q c => lens_even q c kk N ff hk2 hf2 hN
  have CN := fun q c b => contains_none q c b N (kk : Int) (by omega)
  have hcA : costC F most = -1 := by unfold costC; rw [if_neg h]
  rw [hcA] at CA
  clear h hcA
  by_cases h15 : most < 15
  · (refine spec_enter Try.func6 Try.ntmps6 rfl rfl fun Fr => ?_; dsimp only [List.cons_append, List.nil_append, ini, Nat.reduceAdd])
    (repeat' (first | (apply run_qg 1; (focus rfl); (focus exact wt); (focus rfl); (focus (exact qg1))) | (apply run_qg 2; (focus rfl); (focus exact wt); (focus rfl); (focus (first | exact qg2 | exact qs2))) | (apply run_qg 4; (focus rfl); (focus exact wt); (focus rfl); (focus (first | exact qg4 | exact qs4))) | refine cod_seq ?_ | refine cod_region ?_ | refine run_nil ?_ | refine pst_then ?_ | (apply cod_cond_f; (focus rfl)) | refine cod_skip ?_ | (apply run_osg 8; (focus rfl); (focus exact wt); (focus rfl); (focus (exact opr_box_one rfl rfl rfl)); (rintro _ _ ⟨b, rfl, rfl⟩)) | (apply run_offs; (focus rfl); (focus rfl); (focus rfl)) | (apply run_osg 7; (focus rfl); (focus exact wt); (focus rfl); (focus (exact opr_call_ls (by rfl) (CA ..) (by rfl) lpa)); (rintro _ _ ⟨rfl, rfl⟩)) | fail))
    (repeat' (first | (apply run_qg 1; (focus rfl); (focus exact wt); (focus rfl); (focus (exact qg1))) | (apply run_qg 4; (focus rfl); (focus exact wt); (focus rfl); (focus (first | exact qg4 | exact qs4))) | (apply run_osg 7; (focus rfl); (focus exact wt); (focus rfl); (focus (exact opr_call_ls (by rfl) (W1 ..) (by rfl) lpa)); (rintro _ _ ⟨rfl, rfl⟩)) | fail))
    (try rw [hkk])
    (repeat' (first | (apply run_qg 1; (focus rfl); (focus exact wt); (focus rfl); (focus (exact qg1))) | (apply run_qg 2; (focus rfl); (focus exact wt); (focus rfl); (focus (first | exact qg2 | exact qs2))) | (apply run_qg 4; (focus rfl); (focus exact wt); (focus rfl); (focus (first | exact qg4 | exact qs4))) | refine cod_seq ?_ | refine cod_region ?_ | refine run_nil ?_ | refine pst_then ?_ | (apply run_ong 9; (focus rfl); (focus exact wt); (focus (exact opr_store_box_one rfl rfl rfl rfl (by exact pka) rfl (by exact seta))); (rintro _ _ ⟨rfl, rfl⟩)) | (apply run_osg 7; (focus rfl); (focus exact wt); (focus rfl); (focus (exact opr_call_ls (by rfl) (W2 ..) (by rfl) lpa)); (rintro _ _ ⟨rfl, rfl⟩)) | fail))
    (try rw [hff])
    skip
    refine run_qs wt rfl (q_shl_by rfl rfl rfl rfl (by omega) hwr) ?_
    skip
    refine run_os wt rfl (opr_make (fI) (0) (c := N) rfl rfl rfl (by first | rfl | omega) (by first | rfl | omega) rfl rfl (by omega) (by (unfold maxLen); omega)) ?_
    rintro _ _ ⟨qe, rfl, rfl⟩
    rw [show (List.replicate N (0 : Int)) = List.replicate 0 ff ++ List.replicate (N - 0) 0 from rfl]
    (repeat' (first | (apply run_qg 1; (focus rfl); (focus exact wt); (focus rfl); (focus (exact qg1))) | (apply run_qg 6; (focus rfl); (focus exact wt); (focus rfl); (focus (first | exact qs6 | exact qg6 | exact q_max rfl rfl rfl | exact q_sliceData rfl rfl (by omega) | exact q_sliceDataN rfl rfl | exact q_unsafeStringN rfl rfl rfl | exact q_cap_slice rfl rfl))) | refine cod_seq ?_ | refine cod_region ?_ | refine run_nil ?_ | refine pst_then ?_ | refine cod_block ?_ | fail))
    (refine cod_loop_rw (σ := Nat) (fun i => i ≤ N) (fun i => [(74, .int .i64 (i : Int))]) (fun i => [own (.slice qe N N) 3 1 N (flat fI (List.replicate i ff ++ List.replicate (N - i) 0))]) _ (fun i => N - i) (0) (by exact Nat.zero_le _) (by exact fsa) (by (first | exact HSub.of_picks_rest (by exact pca))) (fun i hi => ?_); dsimp only [List.cons_append, List.nil_append])
    rcases Nat.lt_or_ge i N with hlt | hge
    · have hz := fill_get ff hlt
      have hs := fill_set ff hlt
      generalize List.replicate i ff ++ List.replicate (N - i) (0 : Int) = Z at *
      (repeat' (first | (apply run_qg 1; (focus rfl); (focus exact wt); (focus rfl); (focus (exact qg1))) | (apply run_qg 3; (focus rfl); (focus exact wt); (focus rfl); (focus (first | exact qg3 | exact qs3))) | (apply run_qg 4; (focus rfl); (focus exact wt); (focus rfl); (focus (first | exact qg4 | exact qs4))) | refine cod_seq ?_ | refine cod_region ?_ | refine run_nil ?_ | refine pst_then ?_ | (apply cod_cond_t; (focus rfl)) | refine cod_block ?_ | refine cod_skip ?_ | fail))
      (refine run_on wt (opr_store_ownm (f := fI) (q' := ff) rfl rfl rfl rfl (by exact pka) rfl (by omega) (by intro _; rfl) (by assumption) rfl rfl (by rfl)) ?_; rintro _ _ ⟨rfl, rfl⟩)
      rw [hs]
      (repeat' (first | (apply run_qg 1; (focus rfl); (focus exact wt); (focus rfl); (focus (exact qg1))) | (apply run_qg 4; (focus rfl); (focus exact wt); (focus rfl); (focus (first | exact qg4 | exact qs4))) | refine cod_region ?_ | refine run_nil ?_ | refine pst_then ?_ | refine pst_block ?_ | fail))
      refine pst_again (i + 1) ?_ (FSub.of (by (try dsimp only); exact fsa)) (by (try dsimp only); exact hsa) ?_
      · exact hlt
      · omega
    · have hiN : i = N := by omega
      subst hiN
      rw [Nat.sub_self, show List.replicate i ff ++ List.replicate 0 (0 : Int) = List.replicate i ff from List.append_nil _]
      have hrl : i = (List.replicate i ff).length := List.length_replicate.symm
      (repeat' (first | (apply run_qg 1; (focus rfl); (focus exact wt); (focus rfl); (focus (exact qg1))) | (apply run_qg 4; (focus rfl); (focus exact wt); (focus rfl); (focus (first | exact qg4 | exact qs4))) | refine cod_seq ?_ | refine cod_region ?_ | refine run_nil ?_ | refine pst_then ?_ | (apply cod_cond_f; (focus rfl)) | refine cod_exit ?_ | refine pst_block_here ?_ | refine pst_then_exit ?_ | fail))
      (refine run_os wt rfl (opr_call_l rfl (LE _ _) rfl (by exact lpa)) ?_; rintro _ _ ⟨_, ⟨q3, c3, rfl, rfl⟩, rfl⟩; dsimp only [List.cons_append, List.nil_append])
      have hrl2 : i = (List.replicate i (kk : Int)).length := List.length_replicate.symm
      (repeat' (first | (apply run_qg 1; (focus rfl); (focus exact wt); (focus rfl); (focus (exact qg1))) | (apply run_qg 4; (focus rfl); (focus exact wt); (focus rfl); (focus (first | exact qg4 | exact qs4))) | (apply run_qg 5; (focus rfl); (focus exact wt); (focus rfl); (focus (exact qg5))) | (apply run_qg 6; (focus rfl); (focus exact wt); (focus rfl); (focus (first | exact qs6 | exact qg6 | exact q_max rfl rfl rfl | exact q_sliceData rfl rfl (by omega) | exact q_sliceDataN rfl rfl | exact q_unsafeStringN rfl rfl rfl | exact q_cap_slice rfl rfl))) | refine cod_seq ?_ | refine cod_region ?_ | refine run_nil ?_ | refine pst_then ?_ | fail))
      refine run_os wt rfl (opr_call_ls rfl (CN _ _ _) rfl (Lp.view (sl_excl _ _ _) (Lp.view (KK_x _ _) Lp.nil (view_kk pka)) (View.own pka (fun _ => rfl) hrl2))) ?_
      rintro _ _ ⟨rfl, rfl⟩
      (repeat' (first | (apply run_qg 1; (focus rfl); (focus exact wt); (focus rfl); (focus (exact qg1))) | (apply run_qg 4; (focus rfl); (focus exact wt); (focus rfl); (focus (first | exact qg4 | exact qs4))) | refine run_nil ?_ | refine pst_then ?_ | refine cod_ret ?_ | fail))
      exact pst_fin rfl (by exact resa) _ (⟨rfl, rfl⟩) (by exact hsa)
  · (refine spec_enter Try.func6 Try.ntmps6 rfl rfl fun Fr => ?_; dsimp only [List.cons_append, List.nil_append, ini, Nat.reduceAdd])
    (repeat' (first | (apply run_qg 1; (focus rfl); (focus exact wt); (focus rfl); (focus (exact qg1))) | (apply run_qg 2; (focus rfl); (focus exact wt); (focus rfl); (focus (first | exact qg2 | exact qs2))) | (apply run_qg 4; (focus rfl); (focus exact wt); (focus rfl); (focus (first | exact qg4 | exact qs4))) | refine cod_seq ?_ | refine cod_region ?_ | refine run_nil ?_ | refine pst_then ?_ | (apply cod_cond_f; (focus rfl)) | refine cod_skip ?_ | (apply run_osg 8; (focus rfl); (focus exact wt); (focus rfl); (focus (exact opr_box_one rfl rfl rfl)); (rintro _ _ ⟨b, rfl, rfl⟩)) | (apply run_offs; (focus rfl); (focus rfl); (focus rfl)) | (apply run_osg 7; (focus rfl); (focus exact wt); (focus rfl); (focus (exact opr_call_ls (by rfl) (CA ..) (by rfl) lpa)); (rintro _ _ ⟨rfl, rfl⟩)) | fail))
    (repeat' (first | (apply run_qg 1; (focus rfl); (focus exact wt); (focus rfl); (focus (exact qg1))) | (apply run_qg 4; (focus rfl); (focus exact wt); (focus rfl); (focus (first | exact qg4 | exact qs4))) | (apply run_osg 7; (focus rfl); (focus exact wt); (focus rfl); (focus (exact opr_call_ls (by rfl) (W1 ..) (by rfl) lpa)); (rintro _ _ ⟨rfl, rfl⟩)) | fail))
    (try rw [hkk])
    (repeat' (first | (apply run_qg 1; (focus rfl); (focus exact wt); (focus rfl); (focus (exact qg1))) | (apply run_qg 2; (focus rfl); (focus exact wt); (focus rfl); (focus (first | exact qg2 | exact qs2))) | (apply run_qg 4; (focus rfl); (focus exact wt); (focus rfl); (focus (first | exact qg4 | exact qs4))) | refine cod_seq ?_ | refine cod_region ?_ | refine run_nil ?_ | refine pst_then ?_ | (apply run_ong 9; (focus rfl); (focus exact wt); (focus (exact opr_store_box_one rfl rfl rfl rfl (by exact pka) rfl (by exact seta))); (rintro _ _ ⟨rfl, rfl⟩)) | (apply run_osg 7; (focus rfl); (focus exact wt); (focus rfl); (focus (exact opr_call_ls (by rfl) (W2 ..) (by rfl) lpa)); (rintro _ _ ⟨rfl, rfl⟩)) | fail))
    (try rw [hff])
    skip
    refine run_qs wt rfl (q_shl_by rfl rfl rfl rfl (by omega) hwr) ?_
    skip
    refine run_os wt rfl (opr_make (fI) (0) (c := N) rfl rfl rfl (by first | rfl | omega) (by first | rfl | omega) rfl rfl (by omega) (by (unfold maxLen); omega)) ?_
    rintro _ _ ⟨qe, rfl, rfl⟩
    rw [show (List.replicate N (0 : Int)) = List.replicate 0 ff ++ List.replicate (N - 0) 0 from rfl]
    (repeat' (first | (apply run_qg 1; (focus rfl); (focus exact wt); (focus rfl); (focus (exact qg1))) | (apply run_qg 6; (focus rfl); (focus exact wt); (focus rfl); (focus (first | exact qs6 | exact qg6 | exact q_max rfl rfl rfl | exact q_sliceData rfl rfl (by omega) | exact q_sliceDataN rfl rfl | exact q_unsafeStringN rfl rfl rfl | exact q_cap_slice rfl rfl))) | refine cod_seq ?_ | refine cod_region ?_ | refine run_nil ?_ | refine pst_then ?_ | refine cod_block ?_ | fail))
    (refine cod_loop_rw (σ := Nat) (fun i => i ≤ N) (fun i => [(74, .int .i64 (i : Int))]) (fun i => [own (.slice qe N N) 3 1 N (flat fI (List.replicate i ff ++ List.replicate (N - i) 0))]) _ (fun i => N - i) (0) (by exact Nat.zero_le _) (by exact fsa) (by (first | exact HSub.of_picks_rest (by exact pca))) (fun i hi => ?_); dsimp only [List.cons_append, List.nil_append])
    rcases Nat.lt_or_ge i N with hlt | hge
    · have hz := fill_get ff hlt
      have hs := fill_set ff hlt
      generalize List.replicate i ff ++ List.replicate (N - i) (0 : Int) = Z at *
      (repeat' (first | (apply run_qg 1; (focus rfl); (focus exact wt); (focus rfl); (focus (exact qg1))) | (apply run_qg 3; (focus rfl); (focus exact wt); (focus rfl); (focus (first | exact qg3 | exact qs3))) | (apply run_qg 4; (focus rfl); (focus exact wt); (focus rfl); (focus (first | exact qg4 | exact qs4))) | refine cod_seq ?_ | refine cod_region ?_ | refine run_nil ?_ | refine pst_then ?_ | (apply cod_cond_t; (focus rfl)) | refine cod_block ?_ | refine cod_skip ?_ | fail))
      (refine run_on wt (opr_store_ownm (f := fI) (q' := ff) rfl rfl rfl rfl (by exact pka) rfl (by omega) (by intro _; rfl) (by assumption) rfl rfl (by rfl)) ?_; rintro _ _ ⟨rfl, rfl⟩)
      rw [hs]
      (repeat' (first | (apply run_qg 1; (focus rfl); (focus exact wt); (focus rfl); (focus (exact qg1))) | (apply run_qg 4; (focus rfl); (focus exact wt); (focus rfl); (focus (first | exact qg4 | exact qs4))) | refine cod_region ?_ | refine run_nil ?_ | refine pst_then ?_ | refine pst_block ?_ | fail))
      refine pst_again (i + 1) ?_ (FSub.of (by (try dsimp only); exact fsa)) (by (try dsimp only); exact hsa) ?_
      · exact hlt
      · omega
    · have hiN : i = N := by omega
      subst hiN
      rw [Nat.sub_self, show List.replicate i ff ++ List.replicate 0 (0 : Int) = List.replicate i ff from List.append_nil _]
      have hrl : i = (List.replicate i ff).length := List.length_replicate.symm
      (repeat' (first | (apply run_qg 1; (focus rfl); (focus exact wt); (focus rfl); (focus (exact qg1))) | (apply run_qg 4; (focus rfl); (focus exact wt); (focus rfl); (focus (first | exact qg4 | exact qs4))) | refine cod_seq ?_ | refine cod_region ?_ | refine run_nil ?_ | refine pst_then ?_ | (apply cod_cond_f; (focus rfl)) | refine cod_exit ?_ | refine pst_block_here ?_ | refine pst_then_exit ?_ | fail))
      (refine run_os wt rfl (opr_call_l rfl (LE _ _) rfl (by exact lpa)) ?_; rintro _ _ ⟨_, ⟨q3, c3, rfl, rfl⟩, rfl⟩; dsimp only [List.cons_append, List.nil_append])
      have hrl2 : i = (List.replicate i (kk : Int)).length := List.length_replicate.symm
      (repeat' (first | (apply run_qg 1; (focus rfl); (focus exact wt); (focus rfl); (focus (exact qg1))) | (apply run_qg 4; (focus rfl); (focus exact wt); (focus rfl); (focus (first | exact qg4 | exact qs4))) | (apply run_qg 5; (focus rfl); (focus exact wt); (focus rfl); (focus (exact qg5))) | (apply run_qg 6; (focus rfl); (focus exact wt); (focus rfl); (focus (first | exact qs6 | exact qg6 | exact q_max rfl rfl rfl | exact q_sliceData rfl rfl (by omega) | exact q_sliceDataN rfl rfl | exact q_unsafeStringN rfl rfl rfl | exact q_cap_slice rfl rfl))) | refine cod_seq ?_ | refine cod_region ?_ | refine run_nil ?_ | refine pst_then ?_ | fail))
      refine run_os wt rfl (opr_call_ls rfl (CN _ _ _) rfl (Lp.view (sl_excl _ _ _) (Lp.view (KK_x _ _) Lp.nil (view_kk pka)) (View.own pka (fun _ => rfl) hrl2))) ?_
      rintro _ _ ⟨rfl, rfl⟩
      (repeat' (first | (apply run_qg 1; (focus rfl); (focus exact wt); (focus rfl); (focus (exact qg1))) | (apply run_qg 4; (focus rfl); (focus exact wt); (focus rfl); (focus (first | exact qg4 | exact qs4))) | refine run_nil ?_ | refine pst_then ?_ | refine cod_ret ?_ | fail))
      exact pst_fin rfl (by exact resa) _ (⟨rfl, rfl⟩) (by exact hsa)
set_option maxRecDepth 100000 in
set_option maxHeartbeats 8000000 in
theorem law_good (q : Option Addr) (c : Nat) (F : List Int) (most k f : Int) (hl : F.length ≤ 1000000000000000) (hE : lensE F most = 0) :
    Ct Try.prog 6 [.slice q F.length c, .int .i64 most, .int .i64 k, .int .i64 f] [sl 1 (.slice q F.length c) (F.map fI)] fun v H' => v = .bool true ∧ H' = [] := by
  have CA := cost_any q c F most hl
  have hk8 := withinF_bd k 8 (by decide)
  have hfm := withinF_bd f 1048576 (by decide)
  have W1 := within_ct k 8 (by decide) (by decide)
  have W2 := within_ct f 1048576 (by decide) (by decide)
  obtain ⟨kk, hkk⟩ : ∃ kk : Nat, 1 + withinF k 8 = (kk : Int) := ⟨(1 + withinF k 8).toNat, by omega⟩
  obtain ⟨ff, hff⟩ : ∃ ff, 1 + withinF f 1048576 = ff := ⟨_, rfl⟩
  have hk2 : 1 ≤ kk ∧ kk ≤ 8 := by omega
  have hf2 : 1 ≤ ff ∧ ff ≤ 1048576 := by omega
  obtain ⟨N, hN⟩ : ∃ N, 2 ^ kk = N := ⟨_, rfl⟩
  have hN8 : N ≤ 256 := by rw [← hN]; exact Nat.le_trans (Nat.pow_le_pow_right (by decide) hk2.2) (by decide)
  have hwr : IntKind.i64.wrap (1 * 2 ^ kk) = (N : Int) := by
    rw [Int.one_mul, show ((2 : Int) ^ kk) = ((2 ^ kk : Nat) : Int) by simp, hN]
    exact wr_i64 (by omega)
  have LE := fun q c => lens_even q c kk N ff hk2 hf2 hN
  have CN := fun q c b => contains_none q c b N (kk : Int) (by omega)
  obtain ⟨l0, _, hcA, hA0⟩ := cost_is hE
  rw [← hcA] at hA0
  obtain ⟨hg, hm1, hm15, _⟩ := lensE_zero hE
  have hF320 := hg.1
  by_cases h15 : most < 15
  · have CB := cost_any q c F (most + 1) hl
    have hup := cost_up hE h15
    generalize hB : costC F (most + 1) = B at *
    (refine spec_enter Try.func6 Try.ntmps6 rfl rfl fun Fr => ?_; dsimp only [List.cons_append, List.nil_append, ini, Nat.reduceAdd])
    (repeat' (first | (apply run_qg 1; (focus rfl); (focus exact wt); (focus rfl); (focus (exact qg1))) | (apply run_qg 4; (focus rfl); (focus exact wt); (focus rfl); (focus (first | exact qg4 | exact qs4))) | (apply run_qg 6; (focus rfl); (focus exact wt); (focus rfl); (focus (first | exact qs6 | exact qg6 | exact q_max rfl rfl rfl | exact q_sliceData rfl rfl (by omega) | exact q_sliceDataN rfl rfl | exact q_unsafeStringN rfl rfl rfl | exact q_cap_slice rfl rfl))) | refine cod_seq ?_ | refine cod_region ?_ | refine run_nil ?_ | refine pst_then ?_ | (apply cod_cond_t; (focus rfl)) | (apply cod_cond_f; (focus rfl)) | refine cod_block ?_ | refine cod_skip ?_ | (apply run_osg 8; (focus rfl); (focus exact wt); (focus rfl); (focus (exact opr_box_one rfl rfl rfl)); (rintro _ _ ⟨b, rfl, rfl⟩)) | (apply run_osg 7; (focus rfl); (focus exact wt); (focus rfl); (focus (exact opr_call_ls (by rfl) (CA ..) (by rfl) lpa)); (rintro _ _ ⟨rfl, rfl⟩)) | (apply run_osg 7; (focus rfl); (focus exact wt); (focus rfl); (focus (exact opr_call_ls (by rfl) (CB ..) (by rfl) lpa)); (rintro _ _ ⟨rfl, rfl⟩)) | fail))
    (refine cod_loop_ro (σ := Nat × Int × Nat) (fun s => (s.1 ≤ F.length ∧ s.2.1 = sumI (wF F) (posF F s.1)) ∧ (s.2.2 = (posF F s.1).length ∧ (0 ≤ s.2.1 ∧ s.2.1 ≤ 1048576 * (s.1 : Int)))) (fun s => [(40, .int .i64 (s.1 : Int)), (10, .int .i64 s.2.1), (11, .int .i64 (s.2.2 : Int))]) (fun s => F.length - s.1) ((0, 0, 0)) (by exact ⟨⟨Nat.zero_le _, rfl⟩, rfl, by decide, by decide⟩) (by exact fsa) (fun ⟨i, t, n⟩ ⟨⟨hi, ht⟩, hn, ht0, ht1⟩ => ?_); dsimp only [List.cons_append, List.nil_append])
    dsimp only at hi ht hn ht0 ht1
    rcases get_or F i with ⟨x, hx, hlt⟩ | hge
    · have hxg := hg.2 x (List.mem_of_getElem? hx)
      have hxw : wF F i = x := by unfold wF; rw [List.getD_eq_getElem?_getD, hx]; rfl
      have hpl := pos_len F i
      have hni : n ≤ i := by rw [hn]; exact hpl
      by_cases hx0 : 0 < x
      · have hp := pos_next_t (F := F) (n := i) (by omega)
        have e1 : sumI (wF F) (posF F (i + 1)) = t + x := by rw [hp, sumI_app, ← ht]; simp only [sumI, hxw]; omega
        have e2 : (posF F (i + 1)).length = n + 1 := by rw [hp, List.length_append, ← hn]; rfl
        clear hp ht hn
        (repeat' (first | (apply run_qg 1; (focus rfl); (focus exact wt); (focus rfl); (focus (exact qg1))) | (apply run_qg 2; (focus rfl); (focus exact wt); (focus rfl); (focus (first | exact qg2 | exact qs2))) | (apply run_qg 3; (focus rfl); (focus exact wt); (focus rfl); (focus (first | exact qg3 | exact qs3))) | (apply run_qg 4; (focus rfl); (focus exact wt); (focus rfl); (focus (first | exact qg4 | exact qs4))) | refine cod_seq ?_ | refine cod_region ?_ | refine run_nil ?_ | refine pst_then ?_ | (apply cod_cond_t; (focus rfl)) | refine cod_block ?_ | refine cod_skip ?_ | refine pst_block ?_ | fail))
        refine pst_again ((i + 1, t + x, n + 1)) ?_ (FSub.of (by (try dsimp only); exact fsa)) (by (try dsimp only); exact hsa) ?_
        · exact ⟨⟨hlt, e1.symm⟩, e2.symm, by dsimp only; omega, by dsimp only; omega⟩
        · dsimp only; omega
      · have hp := pos_next_f (F := F) (n := i) (by omega)
        have e1 : sumI (wF F) (posF F (i + 1)) = t + x := by rw [hp, ← ht]; omega
        have e2 : (posF F (i + 1)).length = n := by rw [hp, ← hn]
        clear hp ht hn
        (repeat' (first | (apply run_qg 1; (focus rfl); (focus exact wt); (focus rfl); (focus (exact qg1))) | (apply run_qg 2; (focus rfl); (focus exact wt); (focus rfl); (focus (first | exact qg2 | exact qs2))) | (apply run_qg 3; (focus rfl); (focus exact wt); (focus rfl); (focus (first | exact qg3 | exact qs3))) | (apply run_qg 4; (focus rfl); (focus exact wt); (focus rfl); (focus (first | exact qg4 | exact qs4))) | refine cod_seq ?_ | refine cod_region ?_ | refine run_nil ?_ | refine pst_then ?_ | (apply cod_cond_t; (focus rfl)) | (apply cod_cond_f; (focus rfl)) | refine cod_block ?_ | refine cod_skip ?_ | refine pst_block ?_ | fail))
        refine pst_again ((i + 1, t + x, n)) ?_ (FSub.of (by (try dsimp only); exact fsa)) (by (try dsimp only); exact hsa) ?_
        · exact ⟨⟨hlt, e1.symm⟩, e2.symm, by dsimp only; omega, by dsimp only; omega⟩
        · dsimp only; omega
    · have hiF : i = F.length := by omega
      subst hiF
      have hpl := pos_len F F.length
      (repeat' (first | (apply run_qg 1; (focus rfl); (focus exact wt); (focus rfl); (focus (exact qg1))) | (apply run_qg 4; (focus rfl); (focus exact wt); (focus rfl); (focus (first | exact qg4 | exact qs4))) | refine cod_seq ?_ | refine cod_region ?_ | refine run_nil ?_ | refine pst_then ?_ | (apply cod_cond_f; (focus rfl)) | refine cod_block ?_ | refine cod_exit ?_ | refine pst_block_here ?_ | refine pst_then_exit ?_ | fail))
      (refine cod_loop_ro (σ := Nat) (fun w => (1 ≤ w ∧ w ≤ 16) ∧ (w = 1 ∨ 2 ^ (w - 1) < n)) (fun w => [(14, .int .i64 (w : Int))]) (fun w => 20 - w) (1) (by exact ⟨by decide, .inl rfl⟩) (by exact fsa) (fun w ⟨hw, hw2⟩ => ?_); dsimp only [List.cons_append, List.nil_append])
      have PW := pow2_any w (by omega)
      by_cases hlt : 2 ^ w < n
      · have hw9 : w ≤ 8 := by
          rcases Nat.lt_or_ge 8 w with g | g
          · have := Nat.pow_le_pow_right (n := 2) (by decide) g
            omega
          · exact g
        generalize hpw : 2 ^ w = pw at *
        (repeat' (first | (apply run_qg 1; (focus rfl); (focus exact wt); (focus rfl); (focus (exact qg1))) | (apply run_qg 4; (focus rfl); (focus exact wt); (focus rfl); (focus (first | exact qg4 | exact qs4))) | refine cod_seq ?_ | refine cod_region ?_ | refine run_nil ?_ | refine pst_then ?_ | (apply cod_cond_t; (focus rfl)) | refine cod_block ?_ | refine cod_skip ?_ | refine pst_block ?_ | (apply run_osg 7; (focus rfl); (focus exact wt); (focus rfl); (focus (exact opr_call_ls (by rfl) (PW ..) (by rfl) lpa)); (rintro _ _ ⟨rfl, rfl⟩)) | fail))
        refine pst_again (w + 1) ?_ (FSub.of (by (try dsimp only); exact fsa)) (by (try dsimp only); exact hsa) ?_
        · exact ⟨by omega, .inr (by rw [Nat.add_sub_cancel, hpw]; exact hlt)⟩
        · omega
      · have hfl := cost_flat (w := w) hE hw.1 (by rw [← hn]; exact hw2) (by rw [← hn]; omega)
        rw [← ht] at hfl
        have hm0 : 0 ≤ t * (w : Int) ∧ t * (w : Int) ≤ 335544320 * 16 := ⟨Int.mul_nonneg ht0 (by omega), Int.le_trans (Int.mul_le_mul_of_nonneg_right (by omega : t ≤ 335544320) (by omega)) (Int.mul_le_mul_of_nonneg_left (by omega) (by decide))⟩
        clear ht hn hw2 hE
        generalize 2 ^ w = pw at *
        generalize costC F most = A at *
        (repeat' (first | (apply run_qg 1; (focus rfl); (focus exact wt); (focus rfl); (focus (exact qg1))) | (apply run_qg 2; (focus rfl); (focus exact wt); (focus rfl); (focus (first | exact qg2 | exact qs2))) | (apply run_qg 4; (focus rfl); (focus exact wt); (focus rfl); (focus (first | exact qg4 | exact qs4))) | refine cod_seq ?_ | refine cod_region ?_ | refine run_nil ?_ | refine pst_then ?_ | (apply cod_cond_f; (focus rfl)) | refine cod_exit ?_ | refine cod_skip ?_ | refine pst_block_here ?_ | refine pst_then_exit ?_ | (apply run_osg 7; (focus rfl); (focus exact wt); (focus rfl); (focus (exact opr_call_ls (by rfl) (PW ..) (by rfl) lpa)); (rintro _ _ ⟨rfl, rfl⟩)) | fail))
        (repeat' (first | (apply run_qg 1; (focus rfl); (focus exact wt); (focus rfl); (focus (exact qg1))) | (apply run_qg 4; (focus rfl); (focus exact wt); (focus rfl); (focus (first | exact qg4 | exact qs4))) | (apply run_osg 7; (focus rfl); (focus exact wt); (focus rfl); (focus (exact opr_call_ls (by rfl) (W1 ..) (by rfl) lpa)); (rintro _ _ ⟨rfl, rfl⟩)) | fail))
        (try rw [hkk])
        (repeat' (first | (apply run_qg 1; (focus rfl); (focus exact wt); (focus rfl); (focus (exact qg1))) | (apply run_qg 2; (focus rfl); (focus exact wt); (focus rfl); (focus (first | exact qg2 | exact qs2))) | (apply run_qg 4; (focus rfl); (focus exact wt); (focus rfl); (focus (first | exact qg4 | exact qs4))) | refine cod_seq ?_ | refine cod_region ?_ | refine run_nil ?_ | refine pst_then ?_ | (apply run_ong 9; (focus rfl); (focus exact wt); (focus (exact opr_store_box_one rfl rfl rfl rfl (by exact pka) rfl (by exact seta))); (rintro _ _ ⟨rfl, rfl⟩)) | (apply run_osg 7; (focus rfl); (focus exact wt); (focus rfl); (focus (exact opr_call_ls (by rfl) (W2 ..) (by rfl) lpa)); (rintro _ _ ⟨rfl, rfl⟩)) | fail))
        (try rw [hff])
        skip
        refine run_qs wt rfl (q_shl_by rfl rfl rfl rfl (by omega) hwr) ?_
        skip
        refine run_os wt rfl (opr_make (fI) (0) (c := N) rfl rfl rfl (by first | rfl | omega) (by first | rfl | omega) rfl rfl (by omega) (by (unfold maxLen); omega)) ?_
        rintro _ _ ⟨qe, rfl, rfl⟩
        rw [show (List.replicate N (0 : Int)) = List.replicate 0 ff ++ List.replicate (N - 0) 0 from rfl]
        (repeat' (first | (apply run_qg 1; (focus rfl); (focus exact wt); (focus rfl); (focus (exact qg1))) | (apply run_qg 6; (focus rfl); (focus exact wt); (focus rfl); (focus (first | exact qs6 | exact qg6 | exact q_max rfl rfl rfl | exact q_sliceData rfl rfl (by omega) | exact q_sliceDataN rfl rfl | exact q_unsafeStringN rfl rfl rfl | exact q_cap_slice rfl rfl))) | refine cod_seq ?_ | refine cod_region ?_ | refine run_nil ?_ | refine pst_then ?_ | refine cod_block ?_ | fail))
        (refine cod_loop_rw (σ := Nat) (fun i => i ≤ N) (fun i => [(74, .int .i64 (i : Int))]) (fun i => [own (.slice qe N N) 3 1 N (flat fI (List.replicate i ff ++ List.replicate (N - i) 0))]) _ (fun i => N - i) (0) (by exact Nat.zero_le _) (by exact fsa) (by (first | exact HSub.of_picks_rest (by exact pca))) (fun i hi => ?_); dsimp only [List.cons_append, List.nil_append])
        rcases Nat.lt_or_ge i N with hlt | hge
        · have hz := fill_get ff hlt
          have hs := fill_set ff hlt
          generalize List.replicate i ff ++ List.replicate (N - i) (0 : Int) = Z at *
          (repeat' (first | (apply run_qg 1; (focus rfl); (focus exact wt); (focus rfl); (focus (exact qg1))) | (apply run_qg 3; (focus rfl); (focus exact wt); (focus rfl); (focus (first | exact qg3 | exact qs3))) | (apply run_qg 4; (focus rfl); (focus exact wt); (focus rfl); (focus (first | exact qg4 | exact qs4))) | refine cod_seq ?_ | refine cod_region ?_ | refine run_nil ?_ | refine pst_then ?_ | (apply cod_cond_t; (focus rfl)) | refine cod_block ?_ | refine cod_skip ?_ | fail))
          (refine run_on wt (opr_store_ownm (f := fI) (q' := ff) rfl rfl rfl rfl (by exact pka) rfl (by omega) (by intro _; rfl) (by assumption) rfl rfl (by rfl)) ?_; rintro _ _ ⟨rfl, rfl⟩)
          rw [hs]
          (repeat' (first | (apply run_qg 1; (focus rfl); (focus exact wt); (focus rfl); (focus (exact qg1))) | (apply run_qg 4; (focus rfl); (focus exact wt); (focus rfl); (focus (first | exact qg4 | exact qs4))) | refine cod_region ?_ | refine run_nil ?_ | refine pst_then ?_ | refine pst_block ?_ | fail))
          refine pst_again (i + 1) ?_ (FSub.of (by (try dsimp only); exact fsa)) (by (try dsimp only); exact hsa) ?_
          · exact hlt
          · omega
        · have hiN : i = N := by omega
          subst hiN
          rw [Nat.sub_self, show List.replicate i ff ++ List.replicate 0 (0 : Int) = List.replicate i ff from List.append_nil _]
          have hrl : i = (List.replicate i ff).length := List.length_replicate.symm
          (repeat' (first | (apply run_qg 1; (focus rfl); (focus exact wt); (focus rfl); (focus (exact qg1))) | (apply run_qg 4; (focus rfl); (focus exact wt); (focus rfl); (focus (first | exact qg4 | exact qs4))) | refine cod_seq ?_ | refine cod_region ?_ | refine run_nil ?_ | refine pst_then ?_ | (apply cod_cond_f; (focus rfl)) | refine cod_exit ?_ | refine pst_block_here ?_ | refine pst_then_exit ?_ | fail))
          (refine run_os wt rfl (opr_call_l rfl (LE _ _) rfl (by exact lpa)) ?_; rintro _ _ ⟨_, ⟨q3, c3, rfl, rfl⟩, rfl⟩; dsimp only [List.cons_append, List.nil_append])
          have hrl2 : i = (List.replicate i (kk : Int)).length := List.length_replicate.symm
          (repeat' (first | (apply run_qg 1; (focus rfl); (focus exact wt); (focus rfl); (focus (exact qg1))) | (apply run_qg 4; (focus rfl); (focus exact wt); (focus rfl); (focus (first | exact qg4 | exact qs4))) | (apply run_qg 5; (focus rfl); (focus exact wt); (focus rfl); (focus (exact qg5))) | (apply run_qg 6; (focus rfl); (focus exact wt); (focus rfl); (focus (first | exact qs6 | exact qg6 | exact q_max rfl rfl rfl | exact q_sliceData rfl rfl (by omega) | exact q_sliceDataN rfl rfl | exact q_unsafeStringN rfl rfl rfl | exact q_cap_slice rfl rfl))) | refine cod_seq ?_ | refine cod_region ?_ | refine run_nil ?_ | refine pst_then ?_ | fail))
          refine run_os wt rfl (opr_call_ls rfl (CN _ _ _) rfl (Lp.view (sl_excl _ _ _) (Lp.view (KK_x _ _) Lp.nil (view_kk pka)) (View.own pka (fun _ => rfl) hrl2))) ?_
          rintro _ _ ⟨rfl, rfl⟩
          (repeat' (first | (apply run_qg 1; (focus rfl); (focus exact wt); (focus rfl); (focus (exact qg1))) | (apply run_qg 4; (focus rfl); (focus exact wt); (focus rfl); (focus (first | exact qg4 | exact qs4))) | refine run_nil ?_ | refine pst_then ?_ | refine cod_ret ?_ | fail))
          exact pst_fin rfl (by exact resa) _ (⟨rfl, rfl⟩) (by exact hsa)
  · (refine spec_enter Try.func6 Try.ntmps6 rfl rfl fun Fr => ?_; dsimp only [List.cons_append, List.nil_append, ini, Nat.reduceAdd])
    (repeat' (first | (apply run_qg 1; (focus rfl); (focus exact wt); (focus rfl); (focus (exact qg1))) | (apply run_qg 4; (focus rfl); (focus exact wt); (focus rfl); (focus (first | exact qg4 | exact qs4))) | (apply run_qg 6; (focus rfl); (focus exact wt); (focus rfl); (focus (first | exact qs6 | exact qg6 | exact q_max rfl rfl rfl | exact q_sliceData rfl rfl (by omega) | exact q_sliceDataN rfl rfl | exact q_unsafeStringN rfl rfl rfl | exact q_cap_slice rfl rfl))) | refine cod_seq ?_ | refine cod_region ?_ | refine run_nil ?_ | refine pst_then ?_ | (apply cod_cond_t; (focus rfl)) | (apply cod_cond_f; (focus rfl)) | refine cod_block ?_ | refine cod_skip ?_ | (apply run_osg 8; (focus rfl); (focus exact wt); (focus rfl); (focus (exact opr_box_one rfl rfl rfl)); (rintro _ _ ⟨b, rfl, rfl⟩)) | (apply run_offs; (focus rfl); (focus rfl); (focus rfl)) | (apply run_osg 7; (focus rfl); (focus exact wt); (focus rfl); (focus (exact opr_call_ls (by rfl) (CA ..) (by rfl) lpa)); (rintro _ _ ⟨rfl, rfl⟩)) | fail))
    (refine cod_loop_ro (σ := Nat × Int × Nat) (fun s => (s.1 ≤ F.length ∧ s.2.1 = sumI (wF F) (posF F s.1)) ∧ (s.2.2 = (posF F s.1).length ∧ (0 ≤ s.2.1 ∧ s.2.1 ≤ 1048576 * (s.1 : Int)))) (fun s => [(40, .int .i64 (s.1 : Int)), (10, .int .i64 s.2.1), (11, .int .i64 (s.2.2 : Int))]) (fun s => F.length - s.1) ((0, 0, 0)) (by exact ⟨⟨Nat.zero_le _, rfl⟩, rfl, by decide, by decide⟩) (by exact fsa) (fun ⟨i, t, n⟩ ⟨⟨hi, ht⟩, hn, ht0, ht1⟩ => ?_); dsimp only [List.cons_append, List.nil_append])
    dsimp only at hi ht hn ht0 ht1
    rcases get_or F i with ⟨x, hx, hlt⟩ | hge
    · have hxg := hg.2 x (List.mem_of_getElem? hx)
      have hxw : wF F i = x := by unfold wF; rw [List.getD_eq_getElem?_getD, hx]; rfl
      have hpl := pos_len F i
      have hni : n ≤ i := by rw [hn]; exact hpl
      by_cases hx0 : 0 < x
      · have hp := pos_next_t (F := F) (n := i) (by omega)
        have e1 : sumI (wF F) (posF F (i + 1)) = t + x := by rw [hp, sumI_app, ← ht]; simp only [sumI, hxw]; omega
        have e2 : (posF F (i + 1)).length = n + 1 := by rw [hp, List.length_append, ← hn]; rfl
        clear hp ht hn
        (repeat' (first | (apply run_qg 1; (focus rfl); (focus exact wt); (focus rfl); (focus (exact qg1))) | (apply run_qg 2; (focus rfl); (focus exact wt); (focus rfl); (focus (first | exact qg2 | exact qs2))) | (apply run_qg 3; (focus rfl); (focus exact wt); (focus rfl); (focus (first | exact qg3 | exact qs3))) | (apply run_qg 4; (focus rfl); (focus exact wt); (focus rfl); (focus (first | exact qg4 | exact qs4))) | refine cod_seq ?_ | refine cod_region ?_ | refine run_nil ?_ | refine pst_then ?_ | (apply cod_cond_t; (focus rfl)) | refine cod_block ?_ | refine cod_skip ?_ | refine pst_block ?_ | fail))
        refine pst_again ((i + 1, t + x, n + 1)) ?_ (FSub.of (by (try dsimp only); exact fsa)) (by (try dsimp only); exact hsa) ?_
        · exact ⟨⟨hlt, e1.symm⟩, e2.symm, by dsimp only; omega, by dsimp only; omega⟩
        · dsimp only; omega
      · have hp := pos_next_f (F := F) (n := i) (by omega)
        have e1 : sumI (wF F) (posF F (i + 1)) = t + x := by rw [hp, ← ht]; omega
        have e2 : (posF F (i + 1)).length = n := by rw [hp, ← hn]
        clear hp ht hn
        (repeat' (first | (apply run_qg 1; (focus rfl); (focus exact wt); (focus rfl); (focus (exact qg1))) | (apply run_qg 2; (focus rfl); (focus exact wt); (focus rfl); (focus (first | exact qg2 | exact qs2))) | (apply run_qg 3; (focus rfl); (focus exact wt); (focus rfl); (focus (first | exact qg3 | exact qs3))) | (apply run_qg 4; (focus rfl); (focus exact wt); (focus rfl); (focus (first | exact qg4 | exact qs4))) | refine cod_seq ?_ | refine cod_region ?_ | refine run_nil ?_ | refine pst_then ?_ | (apply cod_cond_t; (focus rfl)) | (apply cod_cond_f; (focus rfl)) | refine cod_block ?_ | refine cod_skip ?_ | refine pst_block ?_ | fail))
        refine pst_again ((i + 1, t + x, n)) ?_ (FSub.of (by (try dsimp only); exact fsa)) (by (try dsimp only); exact hsa) ?_
        · exact ⟨⟨hlt, e1.symm⟩, e2.symm, by dsimp only; omega, by dsimp only; omega⟩
        · dsimp only; omega
    · have hiF : i = F.length := by omega
      subst hiF
      have hpl := pos_len F F.length
      (repeat' (first | (apply run_qg 1; (focus rfl); (focus exact wt); (focus rfl); (focus (exact qg1))) | (apply run_qg 4; (focus rfl); (focus exact wt); (focus rfl); (focus (first | exact qg4 | exact qs4))) | refine cod_seq ?_ | refine cod_region ?_ | refine run_nil ?_ | refine pst_then ?_ | (apply cod_cond_f; (focus rfl)) | refine cod_block ?_ | refine cod_exit ?_ | refine pst_block_here ?_ | refine pst_then_exit ?_ | fail))
      (refine cod_loop_ro (σ := Nat) (fun w => (1 ≤ w ∧ w ≤ 16) ∧ (w = 1 ∨ 2 ^ (w - 1) < n)) (fun w => [(14, .int .i64 (w : Int))]) (fun w => 20 - w) (1) (by exact ⟨by decide, .inl rfl⟩) (by exact fsa) (fun w ⟨hw, hw2⟩ => ?_); dsimp only [List.cons_append, List.nil_append])
      have PW := pow2_any w (by omega)
      by_cases hlt : 2 ^ w < n
      · have hw9 : w ≤ 8 := by
          rcases Nat.lt_or_ge 8 w with g | g
          · have := Nat.pow_le_pow_right (n := 2) (by decide) g
            omega
          · exact g
        generalize hpw : 2 ^ w = pw at *
        (repeat' (first | (apply run_qg 1; (focus rfl); (focus exact wt); (focus rfl); (focus (exact qg1))) | (apply run_qg 4; (focus rfl); (focus exact wt); (focus rfl); (focus (first | exact qg4 | exact qs4))) | refine cod_seq ?_ | refine cod_region ?_ | refine run_nil ?_ | refine pst_then ?_ | (apply cod_cond_t; (focus rfl)) | refine cod_block ?_ | refine cod_skip ?_ | refine pst_block ?_ | (apply run_osg 7; (focus rfl); (focus exact wt); (focus rfl); (focus (exact opr_call_ls (by rfl) (PW ..) (by rfl) lpa)); (rintro _ _ ⟨rfl, rfl⟩)) | fail))
        refine pst_again (w + 1) ?_ (FSub.of (by (try dsimp only); exact fsa)) (by (try dsimp only); exact hsa) ?_
        · exact ⟨by omega, .inr (by rw [Nat.add_sub_cancel, hpw]; exact hlt)⟩
        · omega
      · have hfl := cost_flat (w := w) hE hw.1 (by rw [← hn]; exact hw2) (by rw [← hn]; omega)
        rw [← ht] at hfl
        have hm0 : 0 ≤ t * (w : Int) ∧ t * (w : Int) ≤ 335544320 * 16 := ⟨Int.mul_nonneg ht0 (by omega), Int.le_trans (Int.mul_le_mul_of_nonneg_right (by omega : t ≤ 335544320) (by omega)) (Int.mul_le_mul_of_nonneg_left (by omega) (by decide))⟩
        clear ht hn hw2 hE
        generalize 2 ^ w = pw at *
        generalize costC F most = A at *
        (repeat' (first | (apply run_qg 1; (focus rfl); (focus exact wt); (focus rfl); (focus (exact qg1))) | (apply run_qg 2; (focus rfl); (focus exact wt); (focus rfl); (focus (first | exact qg2 | exact qs2))) | (apply run_qg 4; (focus rfl); (focus exact wt); (focus rfl); (focus (first | exact qg4 | exact qs4))) | refine cod_seq ?_ | refine cod_region ?_ | refine run_nil ?_ | refine pst_then ?_ | (apply cod_cond_f; (focus rfl)) | refine cod_exit ?_ | refine cod_skip ?_ | refine pst_block_here ?_ | refine pst_then_exit ?_ | (apply run_osg 7; (focus rfl); (focus exact wt); (focus rfl); (focus (exact opr_call_ls (by rfl) (PW ..) (by rfl) lpa)); (rintro _ _ ⟨rfl, rfl⟩)) | fail))
        (repeat' (first | (apply run_qg 1; (focus rfl); (focus exact wt); (focus rfl); (focus (exact qg1))) | (apply run_qg 4; (focus rfl); (focus exact wt); (focus rfl); (focus (first | exact qg4 | exact qs4))) | (apply run_osg 7; (focus rfl); (focus exact wt); (focus rfl); (focus (exact opr_call_ls (by rfl) (W1 ..) (by rfl) lpa)); (rintro _ _ ⟨rfl, rfl⟩)) | fail))
        (try rw [hkk])
        (repeat' (first | (apply run_qg 1; (focus rfl); (focus exact wt); (focus rfl); (focus (exact qg1))) | (apply run_qg 2; (focus rfl); (focus exact wt); (focus rfl); (focus (first | exact qg2 | exact qs2))) | (apply run_qg 4; (focus rfl); (focus exact wt); (focus rfl); (focus (first | exact qg4 | exact qs4))) | refine cod_seq ?_ | refine cod_region ?_ | refine run_nil ?_ | refine pst_then ?_ | (apply run_ong 9; (focus rfl); (focus exact wt); (focus (exact opr_store_box_one rfl rfl rfl rfl (by exact pka) rfl (by exact seta))); (rintro _ _ ⟨rfl, rfl⟩)) | (apply run_osg 7; (focus rfl); (focus exact wt); (focus rfl); (focus (exact opr_call_ls (by rfl) (W2 ..) (by rfl) lpa)); (rintro _ _ ⟨rfl, rfl⟩)) | fail))
        (try rw [hff])
        skip
        refine run_qs wt rfl (q_shl_by rfl rfl rfl rfl (by omega) hwr) ?_
        skip
        refine run_os wt rfl (opr_make (fI) (0) (c := N) rfl rfl rfl (by first | rfl | omega) (by first | rfl | omega) rfl rfl (by omega) (by (unfold maxLen); omega)) ?_
        rintro _ _ ⟨qe, rfl, rfl⟩
        rw [show (List.replicate N (0 : Int)) = List.replicate 0 ff ++ List.replicate (N - 0) 0 from rfl]
        (repeat' (first | (apply run_qg 1; (focus rfl); (focus exact wt); (focus rfl); (focus (exact qg1))) | (apply run_qg 6; (focus rfl); (focus exact wt); (focus rfl); (focus (first | exact qs6 | exact qg6 | exact q_max rfl rfl rfl | exact q_sliceData rfl rfl (by omega) | exact q_sliceDataN rfl rfl | exact q_unsafeStringN rfl rfl rfl | exact q_cap_slice rfl rfl))) | refine cod_seq ?_ | refine cod_region ?_ | refine run_nil ?_ | refine pst_then ?_ | refine cod_block ?_ | fail))
        (refine cod_loop_rw (σ := Nat) (fun i => i ≤ N) (fun i => [(74, .int .i64 (i : Int))]) (fun i => [own (.slice qe N N) 3 1 N (flat fI (List.replicate i ff ++ List.replicate (N - i) 0))]) _ (fun i => N - i) (0) (by exact Nat.zero_le _) (by exact fsa) (by (first | exact HSub.of_picks_rest (by exact pca))) (fun i hi => ?_); dsimp only [List.cons_append, List.nil_append])
        rcases Nat.lt_or_ge i N with hlt | hge
        · have hz := fill_get ff hlt
          have hs := fill_set ff hlt
          generalize List.replicate i ff ++ List.replicate (N - i) (0 : Int) = Z at *
          (repeat' (first | (apply run_qg 1; (focus rfl); (focus exact wt); (focus rfl); (focus (exact qg1))) | (apply run_qg 3; (focus rfl); (focus exact wt); (focus rfl); (focus (first | exact qg3 | exact qs3))) | (apply run_qg 4; (focus rfl); (focus exact wt); (focus rfl); (focus (first | exact qg4 | exact qs4))) | refine cod_seq ?_ | refine cod_region ?_ | refine run_nil ?_ | refine pst_then ?_ | (apply cod_cond_t; (focus rfl)) | refine cod_block ?_ | refine cod_skip ?_ | fail))
          (refine run_on wt (opr_store_ownm (f := fI) (q' := ff) rfl rfl rfl rfl (by exact pka) rfl (by omega) (by intro _; rfl) (by assumption) rfl rfl (by rfl)) ?_; rintro _ _ ⟨rfl, rfl⟩)
          rw [hs]
          (repeat' (first | (apply run_qg 1; (focus rfl); (focus exact wt); (focus rfl); (focus (exact qg1))) | (apply run_qg 4; (focus rfl); (focus exact wt); (focus rfl); (focus (first | exact qg4 | exact qs4))) | refine cod_region ?_ | refine run_nil ?_ | refine pst_then ?_ | refine pst_block ?_ | fail))
          refine pst_again (i + 1) ?_ (FSub.of (by (try dsimp only); exact fsa)) (by (try dsimp only); exact hsa) ?_
          · exact hlt
          · omega
        · have hiN : i = N := by omega
          subst hiN
          rw [Nat.sub_self, show List.replicate i ff ++ List.replicate 0 (0 : Int) = List.replicate i ff from List.append_nil _]
          have hrl : i = (List.replicate i ff).length := List.length_replicate.symm
          (repeat' (first | (apply run_qg 1; (focus rfl); (focus exact wt); (focus rfl); (focus (exact qg1))) | (apply run_qg 4; (focus rfl); (focus exact wt); (focus rfl); (focus (first | exact qg4 | exact qs4))) | refine cod_seq ?_ | refine cod_region ?_ | refine run_nil ?_ | refine pst_then ?_ | (apply cod_cond_f; (focus rfl)) | refine cod_exit ?_ | refine pst_block_here ?_ | refine pst_then_exit ?_ | fail))
          (refine run_os wt rfl (opr_call_l rfl (LE _ _) rfl (by exact lpa)) ?_; rintro _ _ ⟨_, ⟨q3, c3, rfl, rfl⟩, rfl⟩; dsimp only [List.cons_append, List.nil_append])
          have hrl2 : i = (List.replicate i (kk : Int)).length := List.length_replicate.symm
          (repeat' (first | (apply run_qg 1; (focus rfl); (focus exact wt); (focus rfl); (focus (exact qg1))) | (apply run_qg 4; (focus rfl); (focus exact wt); (focus rfl); (focus (first | exact qg4 | exact qs4))) | (apply run_qg 5; (focus rfl); (focus exact wt); (focus rfl); (focus (exact qg5))) | (apply run_qg 6; (focus rfl); (focus exact wt); (focus rfl); (focus (first | exact qs6 | exact qg6 | exact q_max rfl rfl rfl | exact q_sliceData rfl rfl (by omega) | exact q_sliceDataN rfl rfl | exact q_unsafeStringN rfl rfl rfl | exact q_cap_slice rfl rfl))) | refine cod_seq ?_ | refine cod_region ?_ | refine run_nil ?_ | refine pst_then ?_ | fail))
          refine run_os wt rfl (opr_call_ls rfl (CN _ _ _) rfl (Lp.view (sl_excl _ _ _) (Lp.view (KK_x _ _) Lp.nil (view_kk pka)) (View.own pka (fun _ => rfl) hrl2))) ?_
          rintro _ _ ⟨rfl, rfl⟩
          (repeat' (first | (apply run_qg 1; (focus rfl); (focus exact wt); (focus rfl); (focus (exact qg1))) | (apply run_qg 4; (focus rfl); (focus exact wt); (focus rfl); (focus (first | exact qg4 | exact qs4))) | refine run_nil ?_ | refine pst_then ?_ | refine cod_ret ?_ | fail))
          exact pst_fin rfl (by exact resa) _ (⟨rfl, rfl⟩) (by exact hsa)
theorem walk (W : World) (a : Value) (F : List Int) (ha : SliceAt W 1 a (F.map fun i : Int => [Value.int .i64 i])) (ga : ∀ i ∈ F, (Lit.int .i64 i).wf = true) (na : F.length * Try.prog.bytesOf 3 ≤ reachBytes) (most : Int) (wm : (Lit.int .i64 most).wf = true) (k : Int) (wk : (Lit.int .i64 k).wf = true) (f : Int) (wf : (Lit.int .i64 f).wf = true) :
    Calls Try.prog 6 #[a, .int .i64 most, .int .i64 k, .int .i64 f] W fun e w' => e = .returned (.bool true) ∧ Below W.heap.size W w' := by
  have hr : reachBytes = 140737488351232 := rfl
  have h8 : Try.prog.bytesOf 3 = 8 := by kernel_rfl
  rw [hr, h8] at na
  obtain ⟨qa, ca, rfl⟩ := slice_shape ha
  simp only [List.length_map] at ha ⊢
  by_cases h : lensE F most = 0
  · exact law_of_ct (sh_cons ha sh_nil) (law_good qa ca F most k f (by omega) h)
  · exact law_of_ct (sh_cons ha sh_nil) (law_bad qa ca F most k f (by omega) h)
end Go.Proofs.Ytjkpijlfdbefiaa.lawHuffFlat
