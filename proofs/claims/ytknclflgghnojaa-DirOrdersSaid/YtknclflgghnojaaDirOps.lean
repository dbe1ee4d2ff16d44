/-
  dir: Add, Cut: what they answer, and the walks.
-/
import Derived.Test.YtknclflgghnojaaDirIns
import Derived.Test.YtknclflgghnojaaDirSeek
import Derived.Test.YtknclflgghnojaaOwnE
namespace Go.Proofs.Ytknclflgghnojaa.dir
open Go.RowKit kit sl Go.Proofs.Ytknclflgghnojaa.nam Go.Proofs.Ytknclflgghnojaa.own
set_option linter.unusedVariables false
theorem ct_nil_row {P : Program} {f : FuncId} {args : List Value} {H : List Ent} {u : Value} (e sz : Nat) (h : Ct P f args H fun v H' => v = u ∧ H' = []) : Ct P f args H fun v H' => v = u ∧ H' = [own (.slice none 0 0) e sz 0 []] :=
  ⟨fun Fr w hw => (h.go Fr w hw).mono fun e' w' ⟨v, H', h1, ⟨h2, h3⟩, h4⟩ => ⟨v, _, h1, ⟨h2, rfl⟩, by subst h3; exact heap_nil _ _ _ w' h4⟩⟩
def addD (l : List DEnt) (x : DEnt) : List DEnt := l.take (posD l x.1) ++ x :: l.drop (posD l x.1)
def addE (l : List DEnt) (x : DEnt) : Int := if checkD l ≠ 0 then checkD l else if fitE x ≠ 0 then fitE x else if isD l x.1 then 13 else if l.length = 24 then 10 else 0
def addL (l : List DEnt) (x : DEnt) : List DEnt := if addE l x = 0 then addD l x else []
def cutD (l : List DEnt) (s : List UInt8) : List DEnt := l.take (posD l s) ++ l.drop (posD l s + 1)
def cutE (l : List DEnt) (s : List UInt8) : Int := findE l s
def cutL (l : List DEnt) (s : List UInt8) : List DEnt := if findE l s = 0 then cutD l s else []
theorem addD_len (l : List DEnt) (x : DEnt) : (addD l x).length = l.length + 1 := by
  have := posD_le l x.1
  unfold addD
  rw [List.length_append, List.length_cons, List.length_take, List.length_drop]
  omega
theorem addE_zero {l : List DEnt} {x : DEnt} (h : addE l x = 0) : GoodD l ∧ fitE x = 0 ∧ isD l x.1 = false ∧ l.length ≠ 24 := by
  unfold addE at h
  split at h
  · exact absurd h ‹_›
  · rename_i h1
    split at h
    · exact absurd h ‹_›
    · rename_i h2
      split at h
      · cases h
      · rename_i h3
        split at h
        · cases h
        · exact ⟨(checkD_iff l).1 (by simpa using h1), by simpa using h2, by simpa using h3, ‹_›⟩
theorem addE_ok {l : List DEnt} {x : DEnt} (h1 : GoodD l) (h2 : fitE x = 0) (h3 : isD l x.1 = false) (h4 : l.length ≠ 24) : addE l x = 0 := by
  unfold addE
  rw [if_neg (by simpa using (checkD_iff l).2 h1), if_neg (by simpa using h2), h3, if_neg (by simp), if_neg h4]
theorem findE_zero {l : List DEnt} {s : List UInt8} (h : findE l s = 0) : GoodD l ∧ goodN s ∧ isD l s = true := by
  unfold findE at h
  split at h
  · exact absurd h ‹_›
  · rename_i h1
    split at h
    · cases h
    · rename_i h2
      split at h
      · exact ⟨(checkD_iff l).1 (by simpa using h1), by simpa using h2, ‹_›⟩
      · cases h
theorem isD_lt {l : List DEnt} {s : List UInt8} (h : isD l s = true) : posD l s < l.length := by
  unfold isD at h
  cases hq : l[posD l s]? with
  | none => rw [hq] at h; cases h
  | some p => exact (List.getElem?_eq_some_iff.1 hq).1
attribute [local irreducible] box own sl old bptr eptr Qt Opr Run Cod Pst Drn
set_option maxRecDepth 100000 in
set_option maxHeartbeats 8000000 in
theorem add_ok (q : Option Addr) (c : Nat) (l : List DEnt) (x : DEnt) (h : addE l x = 0) :
    Ct Try.prog 39 [.slice q l.length c, .agg #[.string (str x.1), .int .i64 x.2]] [sl 2 (.slice q l.length c) (l.map fE)] fun v H' => ∃ q' c', v = .tuple #[.slice q' (l.length + 1) c', .int .i64 0] ∧ H' = [own (.slice q' (l.length + 1) c') 62 2 (l.length + 1) (flat fE (addD l x))] := by
  obtain ⟨hg, h2, h3, h4⟩ := addE_zero h
  obtain ⟨g1, g2, g3⟩ := hg
  have hgs : ∀ p ∈ l, p.1.length ≤ 9223372036854775807 := fun p hp => by
    have := (fitE_zero (g2 p hp)).1.2.2.2.1
    omega
  have hx := (fitE_zero h2).1.2.2.2.1
  have C0 := check_any q c l (by omega) hgs
  rw [(checkD_iff l).2 ⟨g1, g2, g3⟩] at C0
  have F0 := fit_any x (by omega)
  rw [h2] at F0
  have S0 := seek_any q c l x.1 g1 g3
  rw [h3] at S0
  have K0 := clone_E q c l (by omega)
  have hpl := posD_le l x.1
  have I0 := fun q qv c => ins_any q qv c (posD l x.1) l x g1 hpl
  have hne : (l.length : Int) ≠ 24 := by omega
  unfold addD
  generalize posD l x.1 = i at *
  generalize l.take i ++ x :: l.drop i = res at *
  clear h h2 h3 h4 g2 g3 hgs
  (refine spec_enter Try.func39 Try.ntmps39 rfl rfl fun Fr => ?_; dsimp only [List.cons_append, List.nil_append, ini, Nat.reduceAdd])
  (repeat' (first | (apply run_qg 1; (focus rfl); (focus exact wt); (focus rfl); (focus (exact qg1))) | (apply run_qg 2; (focus rfl); (focus exact wt); (focus rfl); (focus (first | exact qg2 | exact qs2))) | (apply run_qg 3; (focus rfl); (focus exact wt); (focus rfl); (focus (first | exact qg3 | exact qs3))) | (apply run_qg 4; (focus rfl); (focus exact wt); (focus rfl); (focus (first | exact qg4 | exact qs4))) | (apply run_qg 6; (focus rfl); (focus exact wt); (focus rfl); (focus (first | exact qs6 | exact qg6 | exact q_max rfl rfl rfl | exact q_sliceData rfl rfl (by omega) | exact q_sliceDataN rfl rfl | exact q_unsafeStringN rfl rfl rfl | exact q_cap_slice rfl rfl))) | refine cod_seq ?_ | refine cod_region ?_ | refine run_nil ?_ | refine pst_then ?_ | (apply cod_cond_f; (focus rfl)) | refine cod_skip ?_ | (apply run_osg 8; (focus rfl); (focus exact wt); (focus rfl); (focus (exact opr_box_agg rfl rfl)); (rintro _ _ ⟨b, rfl, rfl⟩)) | (apply run_osg 7; (focus rfl); (focus exact wt); (focus rfl); (focus (exact opr_call_ls (by rfl) (C0 ..) (by rfl) lpa)); (rintro _ _ ⟨rfl, rfl⟩)) | (apply run_osg 7; (focus rfl); (focus exact wt); (focus rfl); (focus (exact opr_call_ls (by rfl) (F0 ..) (by rfl) lpa)); (rintro _ _ ⟨rfl, rfl⟩)) | (apply run_osg 7; (focus rfl); (focus exact wt); (focus rfl); (focus (exact opr_call_ls (by rfl) (S0 ..) (by rfl) lpa)); (rintro _ _ ⟨rfl, rfl⟩))))
  (refine cod_drawn_ks (Hq := [_, _]) [0, 1] [] rfl (by kernel_rfl) (by simp only [List.length_cons, List.length_nil, Nat.reduceAdd]; rfl) ?_)
  (repeat' (first | (apply drnK_take 1; (focus rfl); (focus rfl); (focus exact wt); (focus (decide +kernel)); (focus exact hsq); (focus rfl); (focus (exact qg1))) | (apply drnK_take 2; (focus rfl); (focus rfl); (focus exact wt); (focus (decide +kernel)); (focus exact hsq); (focus rfl); (focus (first | exact qg2 | exact qs2))) | (apply drnK_done; (focus (decide +kernel))) | (apply drnK_skip; (focus rfl)) | (apply drnK_wrap; (focus rfl))))
  (refine drnK_at 1 ?_; refine drnK_two 4 (by kernel_rfl) ?_ ?_)
  · (refine drnI_s 1 1 (by rfl) wt (by rfl) (opr_call_l rfl (K0) rfl lpa) ?_; rintro _ _ ⟨_, ⟨q1, c1, rfl, rfl⟩, rfl⟩; refine ⟨(by first | exact fun h => absurd h (by decide) | exact fun _ => hsq), ?_⟩; (try dsimp only [List.cons_append, List.nil_append]))
    (repeat' (first | (apply drnK_done; (focus (decide +kernel))) | (apply drnK_skip; (focus rfl)) | (apply drnK_wrap; (focus rfl))))
    (refine drnK_at 4 ?_; (first | refine drnK_ones _ (by rfl) (by rfl) (by kernel_rfl) wt (by rfl) (by exact opr_buildSlice rfl rfl rfl (by exact blda) rfl rfl (by decide) rfl) ?_ | refine drnK_onen _ (by rfl) (by rfl) (by kernel_rfl) wt (by exact opr_buildSlice rfl rfl rfl (by exact blda) rfl rfl (by decide) rfl) ?_); rintro _ _ ⟨q3, rfl, rfl⟩; refine ⟨(by first | exact fun h => absurd h (by decide) | exact fun _ => hsq), ?_⟩; (try dsimp only [List.cons_append, List.nil_append]))
    (repeat' (first | (apply drnK_skip; (focus rfl))))
    (refine drnK_at 5 ?_; refine drnK_ones _ (by rfl) (by rfl) (by kernel_rfl) wt (by rfl) (opr_call_l rfl (I0 _ _ _) rfl lpa) ?_; rintro _ _ ⟨_, ⟨q4, c4, rfl, rfl⟩, rfl⟩; refine ⟨(by first | exact fun h => absurd h (by decide) | exact fun _ => hsq), ?_⟩; (try dsimp only [List.cons_append, List.nil_append]))
    (repeat' (first | refine pst_then ?_ | refine cod_ret ?_ | (apply drnK_take 1; (focus rfl); (focus rfl); (focus exact wt); (focus (decide +kernel)); (focus exact hsq); (focus rfl); (focus (exact qg1))) | (apply drnK_end; (focus (decide +kernel)))))
    exact pst_fin rfl (by exact resa) _ (⟨q4, c4, rfl, rfl⟩) (by exact hsa)
  · ((first | refine drnI_s 1 4 (by rfl) wt (by rfl) (by exact opr_buildSlice rfl rfl rfl (by exact blda) rfl rfl (by decide) rfl) ?_ | refine drnI_n 1 4 (by rfl) wt (by exact opr_buildSlice rfl rfl rfl (by exact blda) rfl rfl (by decide) rfl) ?_); rintro _ _ ⟨q3, rfl, rfl⟩; refine ⟨(by first | exact fun h => absurd h (by decide) | exact fun _ => hsq), ?_⟩; (try dsimp only [List.cons_append, List.nil_append]))
    (repeat' (first | (apply drnK_done; (focus (decide +kernel))) | (apply drnK_skip; (focus rfl)) | (apply drnK_wrap; (focus rfl))))
    (refine drnK_at 1 ?_; refine drnK_ones _ (by rfl) (by rfl) (by kernel_rfl) wt (by rfl) (opr_call_l rfl (K0) rfl lpa) ?_; rintro _ _ ⟨_, ⟨q1, c1, rfl, rfl⟩, rfl⟩; refine ⟨(by first | exact fun h => absurd h (by decide) | exact fun _ => hsq), ?_⟩; (try dsimp only [List.cons_append, List.nil_append]))
    (repeat' (first | (apply drnK_done; (focus (decide +kernel))) | (apply drnK_skip; (focus rfl))))
    (refine drnK_at 5 ?_; refine drnK_ones _ (by rfl) (by rfl) (by kernel_rfl) wt (by rfl) (opr_call_l rfl (I0 _ _ _) rfl lpa) ?_; rintro _ _ ⟨_, ⟨q4, c4, rfl, rfl⟩, rfl⟩; refine ⟨(by first | exact fun h => absurd h (by decide) | exact fun _ => hsq), ?_⟩; (try dsimp only [List.cons_append, List.nil_append]))
    (repeat' (first | refine pst_then ?_ | refine cod_ret ?_ | (apply drnK_take 1; (focus rfl); (focus rfl); (focus exact wt); (focus (decide +kernel)); (focus exact hsq); (focus rfl); (focus (exact qg1))) | (apply drnK_end; (focus (decide +kernel)))))
    exact pst_fin rfl (by exact resa) _ (⟨q4, c4, rfl, rfl⟩) (by exact hsa)
set_option maxRecDepth 100000 in
set_option maxHeartbeats 8000000 in
theorem add_bad (q : Option Addr) (c : Nat) (l : List DEnt) (x : DEnt) (hn : l.length ≤ 1000000000000000000) (hs : ∀ p ∈ l, p.1.length ≤ 9223372036854775807) (hx : x.1.length ≤ 9223372036854775807) (h : addE l x ≠ 0) :
    Ct Try.prog 39 [.slice q l.length c, .agg #[.string (str x.1), .int .i64 x.2]] [sl 2 (.slice q l.length c) (l.map fE)] fun v H' => v = .tuple #[.slice none 0 0, .int .i64 (addE l x)] ∧ H' = [] := by
  have C0 := check_any q c l hn hs
  have F0 := fit_any x hx
  unfold addE at *
  by_cases h0 : checkD l = 0
  · obtain ⟨g1, g2, g3⟩ := (checkD_iff l).1 h0
    rw [if_neg (by simpa using h0)] at *
    rw [h0] at C0
    by_cases h1 : fitE x = 0
    · rw [if_neg (by simpa using h1)] at *
      rw [h1] at F0
      have S0 := seek_any q c l x.1 g1 g3
      cases h2 : isD l x.1 with
      | true =>
        rw [h2] at S0
        rw [if_pos rfl]
        generalize posD l x.1 = i at *
        clear h h2 g2 g3 hs
        (refine spec_enter Try.func39 Try.ntmps39 rfl rfl fun Fr => ?_; dsimp only [List.cons_append, List.nil_append, ini, Nat.reduceAdd])
        (repeat' (first | (apply run_qg 1; (focus rfl); (focus exact wt); (focus rfl); (focus (exact qg1))) | (apply run_qg 2; (focus rfl); (focus exact wt); (focus rfl); (focus (first | exact qg2 | exact qs2))) | (apply run_qg 3; (focus rfl); (focus exact wt); (focus rfl); (focus (first | exact qg3 | exact qs3))) | (apply run_qg 4; (focus rfl); (focus exact wt); (focus rfl); (focus (first | exact qg4 | exact qs4))) | refine cod_seq ?_ | refine cod_region ?_ | refine run_nil ?_ | refine pst_then ?_ | (apply cod_cond_t; (focus rfl)) | (apply cod_cond_f; (focus rfl)) | refine cod_ret ?_ | refine cod_skip ?_ | refine pst_then_ret ?_ | (apply run_osg 8; (focus rfl); (focus exact wt); (focus rfl); (focus (exact opr_box_agg rfl rfl)); (rintro _ _ ⟨b, rfl, rfl⟩)) | (apply run_osg 7; (focus rfl); (focus exact wt); (focus rfl); (focus (exact opr_call_ls (by rfl) (C0 ..) (by rfl) lpa)); (rintro _ _ ⟨rfl, rfl⟩)) | (apply run_osg 7; (focus rfl); (focus exact wt); (focus rfl); (focus (exact opr_call_ls (by rfl) (F0 ..) (by rfl) lpa)); (rintro _ _ ⟨rfl, rfl⟩)) | (apply run_osg 7; (focus rfl); (focus exact wt); (focus rfl); (focus (exact opr_call_ls (by rfl) (S0 ..) (by rfl) lpa)); (rintro _ _ ⟨rfl, rfl⟩))))
        exact pst_fin rfl (by exact resa) _ (⟨rfl, rfl⟩) (by exact hsa)
      | false =>
        rw [h2] at S0 h
        rw [if_neg (by simp)] at h ⊢
        have h4 : l.length = 24 := by
          by_cases h4 : l.length = 24
          · exact h4
          · rw [if_neg h4] at h; exact absurd rfl h
        rw [if_pos h4]
        have h4I : (l.length : Int) = 24 := by omega
        generalize posD l x.1 = i at *
        clear h h2 g2 g3 hs h4
        (refine spec_enter Try.func39 Try.ntmps39 rfl rfl fun Fr => ?_; dsimp only [List.cons_append, List.nil_append, ini, Nat.reduceAdd])
        (repeat' (first | (apply run_qg 1; (focus rfl); (focus exact wt); (focus rfl); (focus (exact qg1))) | (apply run_qg 2; (focus rfl); (focus exact wt); (focus rfl); (focus (first | exact qg2 | exact qs2))) | (apply run_qg 3; (focus rfl); (focus exact wt); (focus rfl); (focus (first | exact qg3 | exact qs3))) | (apply run_qg 4; (focus rfl); (focus exact wt); (focus rfl); (focus (first | exact qg4 | exact qs4))) | (apply run_qg 6; (focus rfl); (focus exact wt); (focus rfl); (focus (first | exact qs6 | exact qg6 | exact q_max rfl rfl rfl | exact q_sliceData rfl rfl (by omega) | exact q_sliceDataN rfl rfl | exact q_unsafeStringN rfl rfl rfl | exact q_cap_slice rfl rfl))) | refine cod_seq ?_ | refine cod_region ?_ | refine run_nil ?_ | refine pst_then ?_ | (apply cod_cond_t; (focus rfl)) | (apply cod_cond_f; (focus rfl)) | refine cod_ret ?_ | refine cod_skip ?_ | refine pst_then_ret ?_ | (apply run_osg 8; (focus rfl); (focus exact wt); (focus rfl); (focus (exact opr_box_agg rfl rfl)); (rintro _ _ ⟨b, rfl, rfl⟩)) | (apply run_osg 7; (focus rfl); (focus exact wt); (focus rfl); (focus (exact opr_call_ls (by rfl) (C0 ..) (by rfl) lpa)); (rintro _ _ ⟨rfl, rfl⟩)) | (apply run_osg 7; (focus rfl); (focus exact wt); (focus rfl); (focus (exact opr_call_ls (by rfl) (F0 ..) (by rfl) lpa)); (rintro _ _ ⟨rfl, rfl⟩)) | (apply run_osg 7; (focus rfl); (focus exact wt); (focus rfl); (focus (exact opr_call_ls (by rfl) (S0 ..) (by rfl) lpa)); (rintro _ _ ⟨rfl, rfl⟩))))
        exact pst_fin rfl (by exact resa) _ (⟨rfl, rfl⟩) (by exact hsa)
    · rw [if_pos h1] at *
      generalize fitE x = e at *
      clear h g2 g3 hs
      (refine spec_enter Try.func39 Try.ntmps39 rfl rfl fun Fr => ?_; dsimp only [List.cons_append, List.nil_append, ini, Nat.reduceAdd])
      (repeat' (first | (apply run_qg 1; (focus rfl); (focus exact wt); (focus rfl); (focus (exact qg1))) | (apply run_qg 2; (focus rfl); (focus exact wt); (focus rfl); (focus (first | exact qg2 | exact qs2))) | (apply run_qg 4; (focus rfl); (focus exact wt); (focus rfl); (focus (first | exact qg4 | exact qs4))) | refine cod_seq ?_ | refine cod_region ?_ | refine run_nil ?_ | refine pst_then ?_ | (apply cod_cond_t; (focus rfl)) | (apply cod_cond_f; (focus rfl)) | refine cod_ret ?_ | refine cod_skip ?_ | refine pst_then_ret ?_ | (apply run_osg 8; (focus rfl); (focus exact wt); (focus rfl); (focus (exact opr_box_agg rfl rfl)); (rintro _ _ ⟨b, rfl, rfl⟩)) | (apply run_osg 7; (focus rfl); (focus exact wt); (focus rfl); (focus (exact opr_call_ls (by rfl) (C0 ..) (by rfl) lpa)); (rintro _ _ ⟨rfl, rfl⟩)) | (apply run_osg 7; (focus rfl); (focus exact wt); (focus rfl); (focus (exact opr_call_ls (by rfl) (F0 ..) (by rfl) lpa)); (rintro _ _ ⟨rfl, rfl⟩))))
      exact pst_fin rfl (by exact resa) _ (⟨rfl, rfl⟩) (by exact hsa)
  · rw [if_pos h0] at *
    generalize checkD l = e at *
    clear h hs
    (refine spec_enter Try.func39 Try.ntmps39 rfl rfl fun Fr => ?_; dsimp only [List.cons_append, List.nil_append, ini, Nat.reduceAdd])
    (repeat' (first | (apply run_qg 1; (focus rfl); (focus exact wt); (focus rfl); (focus (exact qg1))) | (apply run_qg 4; (focus rfl); (focus exact wt); (focus rfl); (focus (first | exact qg4 | exact qs4))) | refine cod_seq ?_ | refine cod_region ?_ | refine run_nil ?_ | refine pst_then ?_ | (apply cod_cond_t; (focus rfl)) | refine cod_ret ?_ | refine pst_then_ret ?_ | (apply run_osg 8; (focus rfl); (focus exact wt); (focus rfl); (focus (exact opr_box_agg rfl rfl)); (rintro _ _ ⟨b, rfl, rfl⟩)) | (apply run_osg 7; (focus rfl); (focus exact wt); (focus rfl); (focus (exact opr_call_ls (by rfl) (C0 ..) (by rfl) lpa)); (rintro _ _ ⟨rfl, rfl⟩))))
    exact pst_fin rfl (by exact resa) _ (⟨rfl, rfl⟩) (by exact hsa)
set_option maxRecDepth 100000 in
set_option maxHeartbeats 8000000 in
theorem cut_ok (q : Option Addr) (c : Nat) (l : List DEnt) (s : List UInt8) (h : findE l s = 0) :
    Ct Try.prog 42 [.slice q l.length c, .string (str s)] [sl 2 (.slice q l.length c) (l.map fE)] fun v H' => ∃ q' c', v = .tuple #[.slice q' (l.length - 1) c', .int .i64 0] ∧ H' = [own (.slice q' (l.length - 1) c') 62 2 (l.length - 1) (flat fE (cutD l s))] := by
  obtain ⟨hg, h2, h3⟩ := findE_zero h
  have hlt := isD_lt h3
  obtain ⟨g1, g2, g3⟩ := hg
  have hgs : ∀ p ∈ l, p.1.length ≤ 9223372036854775807 := fun p hp => by
    have := (fitE_zero (g2 p hp)).1.2.2.2.1
    omega
  have hx := h2.2.2.2.1
  have C0 := check_any q c l (by omega) hgs
  rw [(checkD_iff l).2 ⟨g1, g2, g3⟩] at C0
  have G0 := good_any s (by omega)
  rw [show goodE s = 0 from by unfold goodE; rw [if_pos h2]] at G0
  have S0 := seek_any q c l s g1 g3
  rw [h3] at S0
  have K0 := clone_E q c l (by omega)
  have I0 := fun q c => del_any q c (posD l s) l g1 hlt
  unfold cutD
  generalize posD l s = i at *
  generalize l.take i ++ l.drop (i + 1) = res at *
  clear h h2 h3 g2 g3 hgs
  (refine spec_enter Try.func42 Try.ntmps42 rfl rfl fun Fr => ?_; dsimp only [List.cons_append, List.nil_append, ini, Nat.reduceAdd])
  (repeat' (first | (apply run_qg 1; (focus rfl); (focus exact wt); (focus rfl); (focus (exact qg1))) | (apply run_qg 4; (focus rfl); (focus exact wt); (focus rfl); (focus (first | exact qg4 | exact qs4))) | refine cod_seq ?_ | refine cod_region ?_ | refine run_nil ?_ | refine pst_then ?_ | (apply cod_cond_f; (focus rfl)) | refine cod_skip ?_ | (apply run_osg 7; (focus rfl); (focus exact wt); (focus rfl); (focus (exact opr_call_ls (by rfl) (C0 ..) (by rfl) lpa)); (rintro _ _ ⟨rfl, rfl⟩)) | (apply run_osg 7; (focus rfl); (focus exact wt); (focus rfl); (focus (exact opr_call_ls (by rfl) (G0 ..) (by rfl) lpa)); (rintro _ _ ⟨rfl, rfl⟩)) | (apply run_osg 7; (focus rfl); (focus exact wt); (focus rfl); (focus (exact opr_call_ls (by rfl) (S0 ..) (by rfl) lpa)); (rintro _ _ ⟨rfl, rfl⟩))))
  (refine run_os wt rfl (opr_call_l rfl (K0) rfl (by exact lpa)) ?_; rintro _ _ ⟨_, ⟨q1, c1, rfl, rfl⟩, rfl⟩; dsimp only [List.cons_append, List.nil_append])
  (repeat' (first | (apply run_qg 1; (focus rfl); (focus exact wt); (focus rfl); (focus (exact qg1))) | (apply run_qg 4; (focus rfl); (focus exact wt); (focus rfl); (focus (first | exact qg4 | exact qs4)))))
  (refine run_os wt rfl (opr_call_l rfl (I0 _ _) rfl (by exact lpa)) ?_; rintro _ _ ⟨_, ⟨q4, c4, rfl, rfl⟩, rfl⟩; dsimp only [List.cons_append, List.nil_append])
  (repeat' (first | (apply run_qg 1; (focus rfl); (focus exact wt); (focus rfl); (focus (exact qg1))) | refine run_nil ?_ | refine pst_then ?_ | refine cod_ret ?_))
  exact pst_fin rfl (by exact resa) _ (⟨q4, c4, rfl, rfl⟩) (by exact hsa)
set_option maxRecDepth 100000 in
set_option maxHeartbeats 8000000 in
theorem cut_bad (q : Option Addr) (c : Nat) (l : List DEnt) (s : List UInt8) (hn : l.length ≤ 1000000000000000000) (hs : ∀ p ∈ l, p.1.length ≤ 9223372036854775807) (hx : s.length ≤ 9223372036854775807) (h : findE l s ≠ 0) :
    Ct Try.prog 42 [.slice q l.length c, .string (str s)] [sl 2 (.slice q l.length c) (l.map fE)] fun v H' => v = .tuple #[.slice none 0 0, .int .i64 (findE l s)] ∧ H' = [] := by
  have C0 := check_any q c l hn hs
  have G0 := good_any s hx
  unfold findE at *
  by_cases h0 : checkD l = 0
  · obtain ⟨g1, g2, g3⟩ := (checkD_iff l).1 h0
    rw [if_neg (by simpa using h0)] at *
    rw [h0] at C0
    by_cases h1 : goodN s
    · rw [if_neg (by simpa using h1)] at *
      rw [show goodE s = 0 from by unfold goodE; rw [if_pos h1]] at G0
      have S0 := seek_any q c l s g1 g3
      have h2 : isD l s = false := by
        cases h2 : isD l s with
        | false => rfl
        | true => rw [h2, if_pos rfl] at h; exact absurd rfl h
      rw [h2] at S0 ⊢
      rw [if_neg (by simp)]
      generalize posD l s = i at *
      clear h h2 g2 g3 hs
      (refine spec_enter Try.func42 Try.ntmps42 rfl rfl fun Fr => ?_; dsimp only [List.cons_append, List.nil_append, ini, Nat.reduceAdd])
      (repeat' (first | (apply run_qg 1; (focus rfl); (focus exact wt); (focus rfl); (focus (exact qg1))) | (apply run_qg 4; (focus rfl); (focus exact wt); (focus rfl); (focus (first | exact qg4 | exact qs4))) | refine cod_seq ?_ | refine cod_region ?_ | refine run_nil ?_ | refine pst_then ?_ | (apply cod_cond_t; (focus rfl)) | (apply cod_cond_f; (focus rfl)) | refine cod_ret ?_ | refine cod_skip ?_ | refine pst_then_ret ?_ | (apply run_osg 7; (focus rfl); (focus exact wt); (focus rfl); (focus (exact opr_call_ls (by rfl) (C0 ..) (by rfl) lpa)); (rintro _ _ ⟨rfl, rfl⟩)) | (apply run_osg 7; (focus rfl); (focus exact wt); (focus rfl); (focus (exact opr_call_ls (by rfl) (G0 ..) (by rfl) lpa)); (rintro _ _ ⟨rfl, rfl⟩)) | (apply run_osg 7; (focus rfl); (focus exact wt); (focus rfl); (focus (exact opr_call_ls (by rfl) (S0 ..) (by rfl) lpa)); (rintro _ _ ⟨rfl, rfl⟩))))
      exact pst_fin rfl (by exact resa) _ (⟨rfl, rfl⟩) (by exact hsa)
    · rw [if_pos h1] at *
      rw [show goodE s = 11 from by unfold goodE; rw [if_neg h1]] at G0
      clear h g2 g3 hs
      (refine spec_enter Try.func42 Try.ntmps42 rfl rfl fun Fr => ?_; dsimp only [List.cons_append, List.nil_append, ini, Nat.reduceAdd])
      (repeat' (first | (apply run_qg 1; (focus rfl); (focus exact wt); (focus rfl); (focus (exact qg1))) | (apply run_qg 4; (focus rfl); (focus exact wt); (focus rfl); (focus (first | exact qg4 | exact qs4))) | refine cod_seq ?_ | refine cod_region ?_ | refine run_nil ?_ | refine pst_then ?_ | (apply cod_cond_t; (focus rfl)) | (apply cod_cond_f; (focus rfl)) | refine cod_ret ?_ | refine cod_skip ?_ | refine pst_then_ret ?_ | (apply run_osg 7; (focus rfl); (focus exact wt); (focus rfl); (focus (exact opr_call_ls (by rfl) (C0 ..) (by rfl) lpa)); (rintro _ _ ⟨rfl, rfl⟩)) | (apply run_osg 7; (focus rfl); (focus exact wt); (focus rfl); (focus (exact opr_call_ls (by rfl) (G0 ..) (by rfl) lpa)); (rintro _ _ ⟨rfl, rfl⟩))))
      exact pst_fin rfl (by exact resa) _ (⟨rfl, rfl⟩) (by exact hsa)
  · rw [if_pos h0] at *
    generalize checkD l = e at *
    clear h hs
    (refine spec_enter Try.func42 Try.ntmps42 rfl rfl fun Fr => ?_; dsimp only [List.cons_append, List.nil_append, ini, Nat.reduceAdd])
    (repeat' (first | (apply run_qg 1; (focus rfl); (focus exact wt); (focus rfl); (focus (exact qg1))) | (apply run_qg 4; (focus rfl); (focus exact wt); (focus rfl); (focus (first | exact qg4 | exact qs4))) | refine cod_seq ?_ | refine cod_region ?_ | refine run_nil ?_ | refine pst_then ?_ | (apply cod_cond_t; (focus rfl)) | refine cod_ret ?_ | refine pst_then_ret ?_ | (apply run_osg 7; (focus rfl); (focus exact wt); (focus rfl); (focus (exact opr_call_ls (by rfl) (C0 ..) (by rfl) lpa)); (rintro _ _ ⟨rfl, rfl⟩))))
    exact pst_fin rfl (by exact resa) _ (⟨rfl, rfl⟩) (by exact hsa)
theorem cutD_len {l : List DEnt} {s : List UInt8} (h : posD l s < l.length) : (cutD l s).length = l.length - 1 := by
  unfold cutD
  rw [List.length_append, List.length_take, List.length_drop]
  omega
theorem add_any (q : Option Addr) (c : Nat) (l : List DEnt) (x : DEnt) (hn : l.length ≤ 1000000000000000000) (hs : ∀ p ∈ l, p.1.length ≤ 9223372036854775807) (hx : x.1.length ≤ 9223372036854775807) :
    Ct Try.prog 39 [.slice q l.length c, .agg #[.string (str x.1), .int .i64 x.2]] [sl 2 (.slice q l.length c) (l.map fE)] fun v H' => ∃ q' c', v = .tuple #[.slice q' (addL l x).length c', .int .i64 (addE l x)] ∧ H' = [own (.slice q' (addL l x).length c') 62 2 (addL l x).length (flat fE (addL l x))] := by
  unfold addL
  by_cases h : addE l x = 0
  · rw [if_pos h, h, addD_len]
    exact add_ok q c l x h
  · rw [if_neg h]
    exact ct_imp (ct_nil_row 62 2 (add_bad q c l x hn hs hx h)) fun v H' ⟨h1, h2⟩ => ⟨none, 0, h1, h2⟩
theorem cut_any (q : Option Addr) (c : Nat) (l : List DEnt) (s : List UInt8) (hn : l.length ≤ 1000000000000000000) (hs : ∀ p ∈ l, p.1.length ≤ 9223372036854775807) (hx : s.length ≤ 9223372036854775807) :
    Ct Try.prog 42 [.slice q l.length c, .string (str s)] [sl 2 (.slice q l.length c) (l.map fE)] fun v H' => ∃ q' c', v = .tuple #[.slice q' (cutL l s).length c', .int .i64 (cutE l s)] ∧ H' = [own (.slice q' (cutL l s).length c') 62 2 (cutL l s).length (flat fE (cutL l s))] := by
  unfold cutL cutE
  by_cases h : findE l s = 0
  · rw [if_pos h, h, cutD_len (isD_lt (findE_zero h).2.2)]
    exact cut_ok q c l s h
  · rw [if_neg h]
    exact ct_imp (ct_nil_row 62 2 (cut_bad q c l s hn hs hx h)) fun v H' ⟨h1, h2⟩ => ⟨none, 0, h1, h2⟩
end Go.Proofs.Ytknclflgghnojaa.dir
