/-
  path.Join: the walk (names that may be).
-/
import Derived.Test.YtknclflgghnojaaPathSplit
namespace Go.Proofs.Ytknclflgghnojaa.way
open Go.RowKit kit sl nam
open file (fT one_fT)
set_option linter.unusedVariables false
theorem strs_data (l : List (List UInt8)) : (l.map str).map (·.data.toList) = l := by
  rw [List.map_map]
  conv => rhs; rw [← List.map_id l]
  exact List.map_congr_left fun x _ => rfl
theorem sjoin_some (q : Option Addr) (c : Nat) (l : List (List UInt8)) (h0 : l ≠ []) (hl : l.length ≤ 8) (hj : (Lib.join l [47]).length ≤ 1000) :
    Ct Try.prog 61 [.slice q l.length c, .string (str [47])] [sl 1 (.slice q l.length c) (l.map fT)] fun v H' => v = .string (str (Lib.join l [47])) ∧ H' = [] := by
  refine ct_of_calls fun w hw => ?_
  have h : SliceAt w 1 (.slice q l.length c) (l.map fT) := hw.head
  rcases h with ⟨h1, _⟩ | ⟨b, off, cap, h1, h2, h3, h4, h5, h6⟩
  · exact absurd (List.map_eq_nil_iff.1 h1) h0
  · injection h1 with h1 h1b h1c
    subst h1
    subst h1c
    have hc : ∀ (j : Nat) y, (l.map str)[j]? = some y → w.cell? ⟨b, off + j, none⟩ = some (.string y) := fun j y hy => by
      rw [List.getElem?_map, Option.map_eq_some_iff] at hy
      obtain ⟨z, hz, rfl⟩ := hy
      have := (h6 j (fT z) (by rw [List.getElem?_map, hz]; rfl)).2 0 (.string (str z)) rfl
      simpa using this
    have h9 := Try.strings_Join b off c (l.map str) (str [47]) w hc h5 (by rw [List.length_map]; omega) (by simpa using h2) (by rw [strs_data]; show (Lib.join l [47]).length ≤ _; omega)
    rw [strs_data, List.length_map] at h9
    exact h9
attribute [local irreducible] box own sl old bptr eptr Qt Opr Run Cod Pst Drn
set_option maxRecDepth 100000 in
set_option maxHeartbeats 8000000 in
theorem sjoin_any (q : Option Addr) (c : Nat) (l : List (List UInt8)) (hl : l.length ≤ 8) (hj : (Lib.join l [47]).length ≤ 1000) :
    Ct Try.prog 61 [.slice q l.length c, .string (str [47])] [sl 1 (.slice q l.length c) (l.map fT)] fun v H' => v = .string (str (Lib.join l [47])) ∧ H' = [] := by
  cases l with
  | nil =>
    have e0 : ([] : List (List UInt8)).length = 0 := rfl
    rw [e0]
    (refine spec_enter Try.func61 Try.ntmps61 rfl rfl fun Fr => ?_; dsimp only [List.cons_append, List.nil_append, ini, Nat.reduceAdd])
    (repeat' (first | (apply run_qg 1; (focus rfl); (focus exact wt); (focus rfl); (focus (exact qg1))) | (apply run_qg 4; (focus rfl); (focus exact wt); (focus rfl); (focus (first | exact qg4 | exact qs4))) | (apply run_qg 6; (focus rfl); (focus exact wt); (focus rfl); (focus (first | exact qs6 | exact qg6 | exact q_max rfl rfl rfl | exact q_sliceData rfl rfl (by omega) | exact q_sliceDataN rfl rfl | exact q_unsafeStringN rfl rfl rfl | exact q_cap_slice rfl rfl))) | refine cod_seq ?_ | refine cod_region ?_ | refine run_nil ?_ | refine pst_then ?_ | (apply cod_cond_t; (focus rfl)) | refine cod_block ?_ | refine cod_ret ?_ | refine pst_block_ret ?_ | refine pst_then_ret ?_))
    exact pst_fin rfl (by exact resa) _ (⟨rfl, rfl⟩) (by exact hsa)
  | cons x t => exact sjoin_some q c (x :: t) (by simp) hl hj
/-- the way of names -/
def jn (l : List (List UInt8)) : List UInt8 := 47 :: Lib.join l [47]
theorem flat_le (l : List (List UInt8)) (h : ∀ x ∈ l, x.length ≤ 12) : (Lib.joinTail [47] l).length ≤ 13 * l.length := by
  induction l with
  | nil => simp [Lib.joinTail]
  | cons x l ih =>
    have h1 := ih fun y hy => h y (List.mem_cons_of_mem _ hy)
    have h2 := h x List.mem_cons_self
    have : Lib.joinTail [47] (x :: l) = [47] ++ x ++ Lib.joinTail [47] l := by simp [Lib.joinTail]
    rw [this]
    simp only [List.length_append, List.length_cons, List.length_nil]
    omega
theorem jn_len {l : List (List UInt8)} (hl : l.length ≤ 8) (h : ∀ x ∈ l, goodN x) : (Lib.join l [47]).length ≤ 150 := by
  cases l with
  | nil => simp [Lib.join_nil]
  | cons x t =>
    rw [Lib.join_cons, List.length_append]
    have h1 := (h x List.mem_cons_self).2.2.2.1
    have h2 := flat_le t fun y hy => (h y (List.mem_cons_of_mem _ hy)).2.2.2.1
    simp only [List.length_cons] at hl
    omega
set_option maxRecDepth 100000 in
set_option maxHeartbeats 8000000 in
theorem join_good (q : Option Addr) (c : Nat) (l : List (List UInt8)) (hl : l.length ≤ 8) (hg : ∀ x ∈ l, goodN x) :
    Ct Try.prog 34 [.slice q l.length c] [sl 1 (.slice q l.length c) (l.map fT)] fun v H' => v = .tuple #[.string (str (jn l)), .int .i64 0] ∧ H' = [] := by
  have hj := jn_len hl hg
  have S0 := sjoin_any q c l hl (by omega)
  unfold jn
  generalize Lib.join l [47] = t at *
  (refine spec_enter Try.func34 Try.ntmps34 rfl rfl fun Fr => ?_; dsimp only [List.cons_append, List.nil_append, ini, Nat.reduceAdd])
  (repeat' (first | (apply run_qg 1; (focus rfl); (focus exact wt); (focus rfl); (focus (exact qg1))) | (apply run_qg 6; (focus rfl); (focus exact wt); (focus rfl); (focus (first | exact qs6 | exact qg6 | exact q_max rfl rfl rfl | exact q_sliceData rfl rfl (by omega) | exact q_sliceDataN rfl rfl | exact q_unsafeStringN rfl rfl rfl | exact q_cap_slice rfl rfl))) | refine cod_seq ?_ | refine cod_region ?_ | refine run_nil ?_ | refine pst_then ?_ | refine cod_block ?_))
  (refine cod_loop_ro (σ := Nat) (fun k => k ≤ l.length) (fun k => [(9, .int .i64 (k : Int))]) (fun k => l.length - k) (0) (by exact Nat.zero_le _) (by exact fsa) (fun k hk => ?_); dsimp only [List.cons_append, List.nil_append])
  rcases Nat.lt_or_ge k l.length with hlt | hge
  · obtain ⟨p, hpk⟩ : ∃ p, l[k]? = some p := ⟨_, List.getElem?_eq_getElem hlt⟩
    have hp := hg p (List.mem_of_getElem? hpk)
    have F0 := good_any p (by have := hp.2.2.2.1; omega)
    rw [show goodE p = 0 by unfold goodE; rw [if_pos hp]] at F0
    (repeat' (first | (apply run_qg 1; (focus rfl); (focus exact wt); (focus rfl); (focus (exact qg1))) | (apply run_qg 2; (focus rfl); (focus exact wt); (focus rfl); (focus (first | exact qg2 | exact qs2))) | (apply run_qg 3; (focus rfl); (focus exact wt); (focus rfl); (focus (first | exact qg3 | exact qs3))) | (apply run_qg 4; (focus rfl); (focus exact wt); (focus rfl); (focus (first | exact qg4 | exact qs4))) | refine cod_seq ?_ | refine cod_region ?_ | refine run_nil ?_ | refine pst_then ?_ | (apply cod_cond_t; (focus rfl)) | (apply cod_cond_f; (focus rfl)) | refine cod_block ?_ | refine cod_skip ?_ | refine pst_block ?_ | (apply run_osg 7; (focus rfl); (focus exact wt); (focus rfl); (focus (exact opr_call_ls (by rfl) (F0 ..) (by rfl) lpa)); (rintro _ _ ⟨rfl, rfl⟩))))
    refine pst_again (k + 1) ?_ (FSub.of (by (try dsimp only); exact fsa)) (by (try dsimp only); exact hsa) ?_
    · omega
    · omega
  · (repeat' (first | (apply run_qg 1; (focus rfl); (focus exact wt); (focus rfl); (focus (exact qg1))) | (apply run_qg 4; (focus rfl); (focus exact wt); (focus rfl); (focus (first | exact qg4 | exact qs4))) | (apply run_qg 6; (focus rfl); (focus exact wt); (focus rfl); (focus (first | exact qs6 | exact qg6 | exact q_max rfl rfl rfl | exact q_sliceData rfl rfl (by omega) | exact q_sliceDataN rfl rfl | exact q_unsafeStringN rfl rfl rfl | exact q_cap_slice rfl rfl))) | refine cod_seq ?_ | refine cod_region ?_ | refine run_nil ?_ | refine pst_then ?_ | (apply cod_cond_f; (focus rfl)) | refine cod_exit ?_ | refine cod_ret ?_ | refine cod_skip ?_ | refine pst_block_here ?_ | refine pst_then_exit ?_ | (apply run_osg 7; (focus rfl); (focus exact wt); (focus rfl); (focus (exact opr_call_ls (by rfl) (S0 ..) (by rfl) lpa)); (rintro _ _ ⟨rfl, rfl⟩))))
    exact pst_fin rfl (by exact resa) _ (⟨rfl, rfl⟩) (by exact hsa)
end Go.Proofs.Ytknclflgghnojaa.way
