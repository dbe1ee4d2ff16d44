/-
  disk: the walks.
-/
import Derived.Test.YtbgmfkhfbjgekaaTypes
namespace Go.Proofs.Ytbgmfkhfbjgekaa.disk
open Go.RowKit kit sl
set_option linter.unusedVariables false
attribute [local irreducible] box own sl old bptr eptr Qt Opr Run Cod Pst Drn

/-- disk.put -/
def putErr (cells : Nat) (at' : Int) (text : ByteArray) : Int := if at' < 0 ∨ (cells : Int) ≤ at' then 1 else if 1024 < text.size then 2 else 0
set_option maxRecDepth 100000 in
theorem put_any (cells : Nat) (at' : Int) (text : ByteArray) :
    Ct Try.prog 95 [.int .i64 cells, .int .i64 at', .string text] [] fun v H' => v = .int .i64 (putErr cells at' text) ∧ H' = [] := by
  (refine spec_enter Try.func95 Try.ntmps95 rfl rfl fun Fr => ?_; dsimp only [List.cons_append, List.nil_append, ini, Nat.reduceAdd])
  (repeat' (first | (first | (apply run_qg 1; (focus rfl); (focus exact wt); (focus rfl); (focus (exact qg1))) | (apply run_qg 2; (focus rfl); (focus exact wt); (focus rfl); (focus (exact qg2))) | (apply run_qg 3; (focus rfl); (focus exact wt); (focus rfl); (focus (exact qg3))) | (apply run_qg 4; (focus rfl); (focus exact wt); (focus rfl); (focus (exact qg4))) | (apply run_qg 5; (focus rfl); (focus exact wt); (focus rfl); (focus (exact qg5))) | (apply run_qg 6; (focus rfl); (focus exact wt); (focus rfl); (focus (exact qg6))) | refine cod_seq ?_ | refine cod_region ?_ | refine run_nil ?_ | refine pst_then ?_ | (apply cod_cond_t; (focus rfl)) | (apply cod_cond_f; (focus rfl)) | refine cod_block ?_ | refine cod_exit ?_ | refine cod_ret ?_ | refine cod_skip ?_ | refine pst_block_here ?_ | refine pst_block_out rfl ?_ | refine pst_block_ret ?_ | refine pst_then_exit ?_ | refine pst_then_ret ?_ | refine pst_block ?_ | (apply run_osg 8; (focus rfl); (focus exact wt); (focus rfl); (focus (exact opr_box_agg rfl rfl)); (rintro _ _ ⟨b, rfl, rfl⟩)) | (apply run_osg 8; (focus rfl); (focus exact wt); (focus rfl); (focus (exact opr_box_one rfl rfl rfl)); (rintro _ _ ⟨b, rfl, rfl⟩)) | (apply run_osg 8; (focus rfl); (focus exact wt); (focus rfl); (focus (exact opr_new rfl)); (rintro _ _ ⟨b, rfl, rfl⟩)) | (apply run_ong 9; (focus rfl); (focus exact wt); (focus (exact opr_store_box_agg rfl rfl rfl (by exact pka) rfl rfl rfl (by exact spla))); (rintro _ _ ⟨rfl, rfl⟩)) | (apply run_ong 9; (focus rfl); (focus exact wt); (focus (exact opr_store_box_one rfl rfl rfl rfl (by exact pka) rfl (by exact seta))); (rintro _ _ ⟨rfl, rfl⟩)) | (apply run_osg 10; (focus rfl); (focus exact wt); (focus rfl); (focus (exact opr_buildSlice rfl rfl rfl (by exact blda) rfl rfl (by decide) rfl)); (rintro _ _ ⟨q, rfl, rfl⟩)) | (apply run_offs; (focus rfl); (focus rfl); (focus rfl)) | (apply run_offn; (focus rfl); (focus rfl))) | ((first | (apply run_lss; (rotate_left 2); (focus rfl)) | (apply run_leq; (rotate_left 2); (focus rfl)) | (apply run_gtr; (rotate_left 2); (focus rfl)) | (apply run_geq; (rotate_left 2); (focus rfl)) | (apply run_eql; (rotate_left 2); (focus rfl)) | (apply run_neq; (rotate_left 2); (focus rfl)) | (apply run_seq; (rotate_left 2); (focus rfl)) | (apply run_sneq; (rotate_left 2); (focus rfl))); (focus rfl); (focus rfl); (rotate_right 2); (focus exact wt); (focus rfl); (all_goals (intro h; dsimp only [upd])))))
  all_goals
    refine pst_fin rfl (by exact resa) [] ?_ (by exact hsa)
    refine ⟨?_, rfl⟩
    unfold putErr
    (repeat' split) <;> first | rfl | omega
set_option maxRecDepth 100000 in
theorem like_any (a w : Option Addr) (ca cw : Nat) (cs : List ByteArray) (ps : List (Int × ByteArray)) (hc : cs.length ≤ 1000000) (hp : ps.length ≤ 1000000) :
    Ct Try.prog 96 [.agg #[.slice a cs.length ca, .slice w ps.length cw]] [sl 1 (.slice a cs.length ca) (cs.map fS), sl 2 (.slice w ps.length cw) (ps.map fP)] fun v H' => ∃ qa ca qw cw, v = .agg #[.slice qa cs.length ca, .slice qw ps.length cw] ∧ H' = [own (.slice qa cs.length ca) 9 1 cs.length (flat fS cs), own (.slice qw ps.length cw) 63 2 ps.length (flat fP ps)] := by
  (refine spec_enter Try.func96 Try.ntmps96 rfl rfl fun Fr => ?_; dsimp only [List.cons_append, List.nil_append, ini, Nat.reduceAdd])
  (repeat' (first | (first | (apply run_qg 1; (focus rfl); (focus exact wt); (focus rfl); (focus (exact qg1))) | (apply run_qg 2; (focus rfl); (focus exact wt); (focus rfl); (focus (exact qg2))) | (apply run_qg 3; (focus rfl); (focus exact wt); (focus rfl); (focus (exact qg3))) | (apply run_qg 4; (focus rfl); (focus exact wt); (focus rfl); (focus (exact qg4))) | (apply run_qg 5; (focus rfl); (focus exact wt); (focus rfl); (focus (exact qg5))) | (apply run_qg 6; (focus rfl); (focus exact wt); (focus rfl); (focus (exact qg6))) | refine cod_seq ?_ | refine cod_region ?_ | refine run_nil ?_ | refine pst_then ?_ | (apply cod_cond_t; (focus rfl)) | (apply cod_cond_f; (focus rfl)) | refine cod_block ?_ | refine cod_exit ?_ | refine cod_ret ?_ | refine cod_skip ?_ | refine pst_block_here ?_ | refine pst_block_out rfl ?_ | refine pst_block_ret ?_ | refine pst_then_exit ?_ | refine pst_then_ret ?_ | refine pst_block ?_ | (apply run_osg 8; (focus rfl); (focus exact wt); (focus rfl); (focus (exact opr_box_agg rfl rfl)); (rintro _ _ ⟨b, rfl, rfl⟩)) | (apply run_osg 8; (focus rfl); (focus exact wt); (focus rfl); (focus (exact opr_box_one rfl rfl rfl)); (rintro _ _ ⟨b, rfl, rfl⟩)) | (apply run_osg 8; (focus rfl); (focus exact wt); (focus rfl); (focus (exact opr_new rfl)); (rintro _ _ ⟨b, rfl, rfl⟩)) | (apply run_ong 9; (focus rfl); (focus exact wt); (focus (exact opr_store_box_agg rfl rfl rfl (by exact pka) rfl rfl rfl (by exact spla))); (rintro _ _ ⟨rfl, rfl⟩)) | (apply run_ong 9; (focus rfl); (focus exact wt); (focus (exact opr_store_box_one rfl rfl rfl rfl (by exact pka) rfl (by exact seta))); (rintro _ _ ⟨rfl, rfl⟩)) | (apply run_osg 10; (focus rfl); (focus exact wt); (focus rfl); (focus (exact opr_buildSlice rfl rfl rfl (by exact blda) rfl rfl (by decide) rfl)); (rintro _ _ ⟨q, rfl, rfl⟩)) | (apply run_offs; (focus rfl); (focus rfl); (focus rfl)) | (apply run_offn; (focus rfl); (focus rfl))) | ((first | (apply run_lss; (rotate_left 2); (focus rfl)) | (apply run_leq; (rotate_left 2); (focus rfl)) | (apply run_gtr; (rotate_left 2); (focus rfl)) | (apply run_geq; (rotate_left 2); (focus rfl)) | (apply run_eql; (rotate_left 2); (focus rfl)) | (apply run_neq; (rotate_left 2); (focus rfl)) | (apply run_seq; (rotate_left 2); (focus rfl)) | (apply run_sneq; (rotate_left 2); (focus rfl))); (focus rfl); (focus rfl); (rotate_right 2); (focus exact wt); (focus rfl); (all_goals (intro h; dsimp only [upd])))))
  refine cod_drawn_sel (Hq := [_, _, _]) [1, 2, 3] [7] rfl (by kernel_rfl) ?_
  (refine drnL_start [0, 1, 3, 4] ?_; (repeat (first | (apply drnL_take; (focus rfl); (focus exact wt); (focus kernel_rfl); (focus exact hsq); (focus rfl); (focus exact qta)) | (apply drnL_off; (focus rfl); (focus rfl); (focus rfl); (focus kernel_rfl); (focus exact hsq); (focus rfl)))); refine drnL_end ?_)
  (first | refine drn_one 2 (by kernel_rfl) (drn_s 2 (by rfl) wt (by rfl) (by exact opr_append_nil rfl rfl rfl (by exact pka) (by intro _; rfl) (by first | exact one_fS | exact one_fI | exact one_fB | exact one_fP | assumption) rfl (by omega) (by (unfold maxLen); omega)) ?_) | refine drn_one 2 (by kernel_rfl) (drn_n 2 (by rfl) wt (by exact opr_append_nil rfl rfl rfl (by exact pka) (by intro _; rfl) (by first | exact one_fS | exact one_fI | exact one_fB | exact one_fP | assumption) rfl (by omega) (by (unfold maxLen); omega)) ?_)); rintro _ _ ⟨qa', ca', rfl, rfl⟩; refine ⟨(by first | exact fun _ => (by exact hsq) | exact fun h => absurd h (by decide)), ?_⟩
  (first | refine drn_one 5 (by kernel_rfl) (drn_s 5 (by rfl) wt (by rfl) (by exact opr_append_nil rfl rfl rfl (by exact pka) (by intro _; rfl) (by first | exact one_fS | exact one_fI | exact one_fB | exact one_fP | assumption) rfl (by omega) (by (unfold maxLen); omega)) ?_) | refine drn_one 5 (by kernel_rfl) (drn_n 5 (by rfl) wt (by exact opr_append_nil rfl rfl rfl (by exact pka) (by intro _; rfl) (by first | exact one_fS | exact one_fI | exact one_fB | exact one_fP | assumption) rfl (by omega) (by (unfold maxLen); omega)) ?_)); rintro _ _ ⟨qb', cb', rfl, rfl⟩; refine ⟨(by first | exact fun _ => (by exact hsq) | exact fun h => absurd h (by decide)), ?_⟩
  (refine drnL_start [6] ?_; (repeat (first | (apply drnL_take; (focus rfl); (focus exact wt); (focus kernel_rfl); (focus exact hsq); (focus rfl); (focus exact qta)) | (apply drnL_off; (focus rfl); (focus rfl); (focus rfl); (focus kernel_rfl); (focus exact hsq); (focus rfl)))); refine drnL_end ?_)
  (first | refine drn_one 7 (by kernel_rfl) (drn_s 7 (by rfl) wt (by rfl) (by exact (by first | exact opr_store_box_agg rfl rfl rfl (by exact pka) rfl rfl rfl (by exact spla) | exact opr_store_box_one rfl rfl rfl rfl (by exact pka) rfl (by exact seta))) ?_) | refine drn_one 7 (by kernel_rfl) (drn_n 7 (by rfl) wt (by exact (by first | exact opr_store_box_agg rfl rfl rfl (by exact pka) rfl rfl rfl (by exact spla) | exact opr_store_box_one rfl rfl rfl rfl (by exact pka) rfl (by exact seta))) ?_)); rintro _ _ ⟨rfl, rfl⟩; refine ⟨(by first | exact fun _ => (by exact hsq) | exact fun h => absurd h (by decide)), ?_⟩
  refine drn_done (by kernel_rfl) ?_
  (repeat' (first | (first | (apply run_qg 1; (focus rfl); (focus exact wt); (focus rfl); (focus (exact qg1))) | (apply run_qg 2; (focus rfl); (focus exact wt); (focus rfl); (focus (exact qg2))) | (apply run_qg 3; (focus rfl); (focus exact wt); (focus rfl); (focus (exact qg3))) | (apply run_qg 4; (focus rfl); (focus exact wt); (focus rfl); (focus (exact qg4))) | (apply run_qg 5; (focus rfl); (focus exact wt); (focus rfl); (focus (exact qg5))) | (apply run_qg 6; (focus rfl); (focus exact wt); (focus rfl); (focus (exact qg6))) | refine cod_seq ?_ | refine cod_region ?_ | refine run_nil ?_ | refine pst_then ?_ | (apply cod_cond_t; (focus rfl)) | (apply cod_cond_f; (focus rfl)) | refine cod_block ?_ | refine cod_exit ?_ | refine cod_ret ?_ | refine cod_skip ?_ | refine pst_block_here ?_ | refine pst_block_out rfl ?_ | refine pst_block_ret ?_ | refine pst_then_exit ?_ | refine pst_then_ret ?_ | refine pst_block ?_ | (apply run_osg 8; (focus rfl); (focus exact wt); (focus rfl); (focus (exact opr_box_agg rfl rfl)); (rintro _ _ ⟨b, rfl, rfl⟩)) | (apply run_osg 8; (focus rfl); (focus exact wt); (focus rfl); (focus (exact opr_box_one rfl rfl rfl)); (rintro _ _ ⟨b, rfl, rfl⟩)) | (apply run_osg 8; (focus rfl); (focus exact wt); (focus rfl); (focus (exact opr_new rfl)); (rintro _ _ ⟨b, rfl, rfl⟩)) | (apply run_ong 9; (focus rfl); (focus exact wt); (focus (exact opr_store_box_agg rfl rfl rfl (by exact pka) rfl rfl rfl (by exact spla))); (rintro _ _ ⟨rfl, rfl⟩)) | (apply run_ong 9; (focus rfl); (focus exact wt); (focus (exact opr_store_box_one rfl rfl rfl rfl (by exact pka) rfl (by exact seta))); (rintro _ _ ⟨rfl, rfl⟩)) | (apply run_osg 10; (focus rfl); (focus exact wt); (focus rfl); (focus (exact opr_buildSlice rfl rfl rfl (by exact blda) rfl rfl (by decide) rfl)); (rintro _ _ ⟨q, rfl, rfl⟩)) | (apply run_offs; (focus rfl); (focus rfl); (focus rfl)) | (apply run_offn; (focus rfl); (focus rfl))) | ((first | (apply run_lss; (rotate_left 2); (focus rfl)) | (apply run_leq; (rotate_left 2); (focus rfl)) | (apply run_gtr; (rotate_left 2); (focus rfl)) | (apply run_geq; (rotate_left 2); (focus rfl)) | (apply run_eql; (rotate_left 2); (focus rfl)) | (apply run_neq; (rotate_left 2); (focus rfl)) | (apply run_seq; (rotate_left 2); (focus rfl)) | (apply run_sneq; (rotate_left 2); (focus rfl))); (focus rfl); (focus rfl); (rotate_right 2); (focus exact wt); (focus rfl); (all_goals (intro h; dsimp only [upd])))))
  exact pst_fin rfl (by exact resa) _ (⟨_, _, _, _, rfl, rfl⟩) (by exact hsa)
def firstE (n : Nat) : List (Int × ByteArray) → Int
  | [] => 0
  | p :: ps => if putErr n p.1 p.2 ≠ 0 then putErr n p.1 p.2 else firstE n ps
def bigCell (s : ByteArray) : Bool := decide (1024 < s.size)
/-- disk.Check -/
def checkD (cs : List ByteArray) (ps : List (Int × ByteArray)) : Int :=
  if cs.length < 1 ∨ 128 < cs.length then 1 else if cs.any bigCell = true then 2 else if firstE cs.length ps ≠ 0 then firstE cs.length ps else if 400 < ps.length then 2 else 0
theorem firstE_take {n k : Nat} {ps : List (Int × ByteArray)} {p : Int × ByteArray} (hp : ps[k]? = some p) (h : firstE n (ps.take k) = 0) : firstE n (ps.take (k + 1)) = putErr n p.1 p.2 ∧ (putErr n p.1 p.2 ≠ 0 → firstE n ps = putErr n p.1 p.2) := by
  induction ps generalizing k with
  | nil => simp at hp
  | cons q ps ih =>
    cases k with
    | zero =>
      simp at hp
      subst hp
      simp only [List.take_succ_cons, List.take_zero, firstE]
      by_cases h0 : putErr n q.1 q.2 = 0 <;> simp [h0]
    | succ k =>
      simp only [List.take_succ_cons, firstE] at h ⊢
      split at h
      · rename_i h1; exact absurd h h1
      · rename_i h1
        rw [if_neg h1, if_neg h1]
        exact ih (by simpa using hp) h
theorem firstE_all {n k : Nat} {ps : List (Int × ByteArray)} (hk : ps.length ≤ k) (h : firstE n (ps.take k) = 0) : firstE n ps = 0 := by
  rw [List.take_of_length_le hk] at h; exact h
set_option maxRecDepth 100000 in
theorem check_any (a w : Option Addr) (ca cw : Nat) (cs : List ByteArray) (ps : List (Int × ByteArray)) (hc : cs.length ≤ maxLen) (hp : ps.length ≤ maxLen) :
    Ct Try.prog 94 [.agg #[.slice a cs.length ca, .slice w ps.length cw]] [sl 1 (.slice a cs.length ca) (cs.map fS), sl 2 (.slice w ps.length cw) (ps.map fP)] fun v H' => v = .int .i64 (checkD cs ps) ∧ H' = [] := by
  unfold maxLen at hc hp
  (refine spec_enter Try.func94 Try.ntmps94 rfl rfl fun Fr => ?_; dsimp only [List.cons_append, List.nil_append, ini, Nat.reduceAdd])
  (repeat' (first | (first | (apply run_qg 1; (focus rfl); (focus exact wt); (focus rfl); (focus (exact qg1))) | (apply run_qg 2; (focus rfl); (focus exact wt); (focus rfl); (focus (exact qg2))) | (apply run_qg 3; (focus rfl); (focus exact wt); (focus rfl); (focus (exact qg3))) | (apply run_qg 4; (focus rfl); (focus exact wt); (focus rfl); (focus (exact qg4))) | (apply run_qg 5; (focus rfl); (focus exact wt); (focus rfl); (focus (exact qg5))) | (apply run_qg 6; (focus rfl); (focus exact wt); (focus rfl); (focus (exact qg6))) | refine cod_seq ?_ | refine cod_region ?_ | refine run_nil ?_ | refine pst_then ?_ | (apply cod_cond_t; (focus rfl)) | (apply cod_cond_f; (focus rfl)) | refine cod_block ?_ | refine cod_exit ?_ | refine cod_ret ?_ | refine cod_skip ?_ | refine pst_block_here ?_ | refine pst_block_out rfl ?_ | refine pst_block_ret ?_ | refine pst_then_exit ?_ | refine pst_then_ret ?_ | refine pst_block ?_ | (apply run_osg 8; (focus rfl); (focus exact wt); (focus rfl); (focus (exact opr_box_agg rfl rfl)); (rintro _ _ ⟨b, rfl, rfl⟩)) | (apply run_osg 8; (focus rfl); (focus exact wt); (focus rfl); (focus (exact opr_box_one rfl rfl rfl)); (rintro _ _ ⟨b, rfl, rfl⟩)) | (apply run_osg 8; (focus rfl); (focus exact wt); (focus rfl); (focus (exact opr_new rfl)); (rintro _ _ ⟨b, rfl, rfl⟩)) | (apply run_ong 9; (focus rfl); (focus exact wt); (focus (exact opr_store_box_agg rfl rfl rfl (by exact pka) rfl rfl rfl (by exact spla))); (rintro _ _ ⟨rfl, rfl⟩)) | (apply run_ong 9; (focus rfl); (focus exact wt); (focus (exact opr_store_box_one rfl rfl rfl rfl (by exact pka) rfl (by exact seta))); (rintro _ _ ⟨rfl, rfl⟩)) | (apply run_osg 10; (focus rfl); (focus exact wt); (focus rfl); (focus (exact opr_buildSlice rfl rfl rfl (by exact blda) rfl rfl (by decide) rfl)); (rintro _ _ ⟨q, rfl, rfl⟩)) | (apply run_offs; (focus rfl); (focus rfl); (focus rfl)) | (apply run_offn; (focus rfl); (focus rfl))) | ((first | (apply run_lss; (rotate_left 2); (focus rfl)) | (apply run_leq; (rotate_left 2); (focus rfl)) | (apply run_gtr; (rotate_left 2); (focus rfl)) | (apply run_geq; (rotate_left 2); (focus rfl)) | (apply run_eql; (rotate_left 2); (focus rfl)) | (apply run_neq; (rotate_left 2); (focus rfl)) | (apply run_seq; (rotate_left 2); (focus rfl)) | (apply run_sneq; (rotate_left 2); (focus rfl))); (focus rfl); (focus rfl); (rotate_right 2); (focus exact wt); (focus rfl); (all_goals (intro h; dsimp only [upd])))))
  · exact pst_fin rfl (by exact resa) _ (⟨by unfold checkD; rw [if_pos (by omega)], rfl⟩) (by exact hsa)
  · exact pst_fin rfl (by exact resa) _ (⟨by unfold checkD; rw [if_pos (by omega)], rfl⟩) (by exact hsa)
  (refine cod_loop_ro (σ := Nat) (fun k => k ≤ cs.length ∧ (cs.take k).any bigCell = false) (fun k => [(21, .int .i64 (k : Int))]) (fun k => cs.length - k) (0) (by simp) (by exact fsa) (fun k ⟨hk, hb⟩ => ?_); dsimp only [List.cons_append, List.nil_append])
  rcases get_or cs k with ⟨s, hs, hlt⟩ | hge
  · (repeat' (first | (first | (apply run_qg 1; (focus rfl); (focus exact wt); (focus rfl); (focus (exact qg1))) | (apply run_qg 2; (focus rfl); (focus exact wt); (focus rfl); (focus (exact qg2))) | (apply run_qg 3; (focus rfl); (focus exact wt); (focus rfl); (focus (exact qg3))) | (apply run_qg 4; (focus rfl); (focus exact wt); (focus rfl); (focus (exact qg4))) | (apply run_qg 5; (focus rfl); (focus exact wt); (focus rfl); (focus (exact qg5))) | (apply run_qg 6; (focus rfl); (focus exact wt); (focus rfl); (focus (exact qg6))) | refine cod_seq ?_ | refine cod_region ?_ | refine run_nil ?_ | refine pst_then ?_ | (apply cod_cond_t; (focus rfl)) | (apply cod_cond_f; (focus rfl)) | refine cod_block ?_ | refine cod_exit ?_ | refine cod_ret ?_ | refine cod_skip ?_ | refine pst_block_here ?_ | refine pst_block_out rfl ?_ | refine pst_block_ret ?_ | refine pst_then_exit ?_ | refine pst_then_ret ?_ | refine pst_block ?_ | (apply run_osg 8; (focus rfl); (focus exact wt); (focus rfl); (focus (exact opr_box_agg rfl rfl)); (rintro _ _ ⟨b, rfl, rfl⟩)) | (apply run_osg 8; (focus rfl); (focus exact wt); (focus rfl); (focus (exact opr_box_one rfl rfl rfl)); (rintro _ _ ⟨b, rfl, rfl⟩)) | (apply run_osg 8; (focus rfl); (focus exact wt); (focus rfl); (focus (exact opr_new rfl)); (rintro _ _ ⟨b, rfl, rfl⟩)) | (apply run_ong 9; (focus rfl); (focus exact wt); (focus (exact opr_store_box_agg rfl rfl rfl (by exact pka) rfl rfl rfl (by exact spla))); (rintro _ _ ⟨rfl, rfl⟩)) | (apply run_ong 9; (focus rfl); (focus exact wt); (focus (exact opr_store_box_one rfl rfl rfl rfl (by exact pka) rfl (by exact seta))); (rintro _ _ ⟨rfl, rfl⟩)) | (apply run_osg 10; (focus rfl); (focus exact wt); (focus rfl); (focus (exact opr_buildSlice rfl rfl rfl (by exact blda) rfl rfl (by decide) rfl)); (rintro _ _ ⟨q, rfl, rfl⟩)) | (apply run_offs; (focus rfl); (focus rfl); (focus rfl)) | (apply run_offn; (focus rfl); (focus rfl))) | ((first | (apply run_lss; (rotate_left 2); (focus rfl)) | (apply run_leq; (rotate_left 2); (focus rfl)) | (apply run_gtr; (rotate_left 2); (focus rfl)) | (apply run_geq; (rotate_left 2); (focus rfl)) | (apply run_eql; (rotate_left 2); (focus rfl)) | (apply run_neq; (rotate_left 2); (focus rfl)) | (apply run_seq; (rotate_left 2); (focus rfl)) | (apply run_sneq; (rotate_left 2); (focus rfl))); (focus rfl); (focus rfl); (rotate_right 2); (focus exact wt); (focus rfl); (all_goals (intro h; dsimp only [upd])))))
    · have hbs : bigCell s = true := by simp only [bigCell, decide_eq_true_eq]; omega
      exact pst_fin rfl (by exact resa) _ (⟨by unfold checkD; rw [if_neg (by omega), if_pos (any_of hs hbs)], rfl⟩) (by exact hsa)
    · refine pst_again (k + 1) ?_ (FSub.of (by (try dsimp only); exact fsa)) (by (try dsimp only); exact hsa) ?_
      · exact ⟨by omega, any_take hs hb (by simp only [bigCell, decide_eq_false_iff_not]; omega)⟩
      · show cs.length - (k + 1) < cs.length - k
        omega
  · have hall := any_all hge hb
    clear hb
    (repeat' (first | (first | (apply run_qg 1; (focus rfl); (focus exact wt); (focus rfl); (focus (exact qg1))) | (apply run_qg 2; (focus rfl); (focus exact wt); (focus rfl); (focus (exact qg2))) | (apply run_qg 3; (focus rfl); (focus exact wt); (focus rfl); (focus (exact qg3))) | (apply run_qg 4; (focus rfl); (focus exact wt); (focus rfl); (focus (exact qg4))) | (apply run_qg 5; (focus rfl); (focus exact wt); (focus rfl); (focus (exact qg5))) | (apply run_qg 6; (focus rfl); (focus exact wt); (focus rfl); (focus (exact qg6))) | refine cod_seq ?_ | refine cod_region ?_ | refine run_nil ?_ | refine pst_then ?_ | (apply cod_cond_t; (focus rfl)) | (apply cod_cond_f; (focus rfl)) | refine cod_block ?_ | refine cod_exit ?_ | refine cod_ret ?_ | refine cod_skip ?_ | refine pst_block_here ?_ | refine pst_block_out rfl ?_ | refine pst_block_ret ?_ | refine pst_then_exit ?_ | refine pst_then_ret ?_ | refine pst_block ?_ | (apply run_osg 8; (focus rfl); (focus exact wt); (focus rfl); (focus (exact opr_box_agg rfl rfl)); (rintro _ _ ⟨b, rfl, rfl⟩)) | (apply run_osg 8; (focus rfl); (focus exact wt); (focus rfl); (focus (exact opr_box_one rfl rfl rfl)); (rintro _ _ ⟨b, rfl, rfl⟩)) | (apply run_osg 8; (focus rfl); (focus exact wt); (focus rfl); (focus (exact opr_new rfl)); (rintro _ _ ⟨b, rfl, rfl⟩)) | (apply run_ong 9; (focus rfl); (focus exact wt); (focus (exact opr_store_box_agg rfl rfl rfl (by exact pka) rfl rfl rfl (by exact spla))); (rintro _ _ ⟨rfl, rfl⟩)) | (apply run_ong 9; (focus rfl); (focus exact wt); (focus (exact opr_store_box_one rfl rfl rfl rfl (by exact pka) rfl (by exact seta))); (rintro _ _ ⟨rfl, rfl⟩)) | (apply run_osg 10; (focus rfl); (focus exact wt); (focus rfl); (focus (exact opr_buildSlice rfl rfl rfl (by exact blda) rfl rfl (by decide) rfl)); (rintro _ _ ⟨q, rfl, rfl⟩)) | (apply run_offs; (focus rfl); (focus rfl); (focus rfl)) | (apply run_offn; (focus rfl); (focus rfl))) | ((first | (apply run_lss; (rotate_left 2); (focus rfl)) | (apply run_leq; (rotate_left 2); (focus rfl)) | (apply run_gtr; (rotate_left 2); (focus rfl)) | (apply run_geq; (rotate_left 2); (focus rfl)) | (apply run_eql; (rotate_left 2); (focus rfl)) | (apply run_neq; (rotate_left 2); (focus rfl)) | (apply run_seq; (rotate_left 2); (focus rfl)) | (apply run_sneq; (rotate_left 2); (focus rfl))); (focus rfl); (focus rfl); (rotate_right 2); (focus exact wt); (focus rfl); (all_goals (intro h; dsimp only [upd])))))
    (refine cod_loop_ro (σ := Nat) (fun k => k ≤ ps.length ∧ firstE cs.length (ps.take k) = 0) (fun k => [(32, .int .i64 (k : Int))]) (fun k => ps.length - k) (0) (by simp [firstE]) (by exact fsa) (fun k2 ⟨hk2, hb⟩ => ?_); dsimp only [List.cons_append, List.nil_append])
    rcases get_or ps k2 with ⟨p, hs, hlt⟩ | hge2
    · obtain ⟨f1, f2⟩ := firstE_take hs hb
      (repeat' (first | (first | (apply run_qg 1; (focus rfl); (focus exact wt); (focus rfl); (focus (exact qg1))) | (apply run_qg 2; (focus rfl); (focus exact wt); (focus rfl); (focus (exact qg2))) | (apply run_qg 3; (focus rfl); (focus exact wt); (focus rfl); (focus (exact qg3))) | (apply run_qg 4; (focus rfl); (focus exact wt); (focus rfl); (focus (exact qg4))) | (apply run_qg 5; (focus rfl); (focus exact wt); (focus rfl); (focus (exact qg5))) | (apply run_qg 6; (focus rfl); (focus exact wt); (focus rfl); (focus (exact qg6))) | refine cod_seq ?_ | refine cod_region ?_ | refine run_nil ?_ | refine pst_then ?_ | (apply cod_cond_t; (focus rfl)) | (apply cod_cond_f; (focus rfl)) | refine cod_block ?_ | refine cod_exit ?_ | refine cod_ret ?_ | refine cod_skip ?_ | refine pst_block_here ?_ | refine pst_block_out rfl ?_ | refine pst_block_ret ?_ | refine pst_then_exit ?_ | refine pst_then_ret ?_ | refine pst_block ?_ | (apply run_osg 8; (focus rfl); (focus exact wt); (focus rfl); (focus (exact opr_box_agg rfl rfl)); (rintro _ _ ⟨b, rfl, rfl⟩)) | (apply run_osg 8; (focus rfl); (focus exact wt); (focus rfl); (focus (exact opr_box_one rfl rfl rfl)); (rintro _ _ ⟨b, rfl, rfl⟩)) | (apply run_osg 8; (focus rfl); (focus exact wt); (focus rfl); (focus (exact opr_new rfl)); (rintro _ _ ⟨b, rfl, rfl⟩)) | (apply run_ong 9; (focus rfl); (focus exact wt); (focus (exact opr_store_box_agg rfl rfl rfl (by exact pka) rfl rfl rfl (by exact spla))); (rintro _ _ ⟨rfl, rfl⟩)) | (apply run_ong 9; (focus rfl); (focus exact wt); (focus (exact opr_store_box_one rfl rfl rfl rfl (by exact pka) rfl (by exact seta))); (rintro _ _ ⟨rfl, rfl⟩)) | (apply run_osg 10; (focus rfl); (focus exact wt); (focus rfl); (focus (exact opr_buildSlice rfl rfl rfl (by exact blda) rfl rfl (by decide) rfl)); (rintro _ _ ⟨q, rfl, rfl⟩)) | (apply run_offs; (focus rfl); (focus rfl); (focus rfl)) | (apply run_offn; (focus rfl); (focus rfl))) | (apply run_osg 7; (focus rfl); (focus exact wt); (focus rfl); (focus (first | exact opr_call_ls (by rfl) (put_any ..) (by rfl) (by exact lpa) | exact opr_call_s (by rfl) (put_any ..) (by rfl) (by exact pca))); (rintro _ _ ⟨rfl, rfl⟩)) | ((first | (apply run_lss; (rotate_left 2); (focus rfl)) | (apply run_leq; (rotate_left 2); (focus rfl)) | (apply run_gtr; (rotate_left 2); (focus rfl)) | (apply run_geq; (rotate_left 2); (focus rfl)) | (apply run_eql; (rotate_left 2); (focus rfl)) | (apply run_neq; (rotate_left 2); (focus rfl)) | (apply run_seq; (rotate_left 2); (focus rfl)) | (apply run_sneq; (rotate_left 2); (focus rfl))); (focus rfl); (focus rfl); (rotate_right 2); (focus exact wt); (focus rfl); (all_goals (intro h; dsimp only [upd])))))
      · exact pst_fin rfl (by exact resa) _ (⟨by unfold checkD; rw [if_neg (by omega), if_neg (by rw [hall]; simp), f2 ‹_›, if_pos ‹_›], rfl⟩) (by exact hsa)
      · refine pst_again (k2 + 1) ?_ (FSub.of (by (try dsimp only); exact fsa)) (by (try dsimp only); exact hsa) ?_
        · exact ⟨by omega, by rw [f1]; assumption⟩
        · show ps.length - (k2 + 1) < ps.length - k2
          omega
    · have h0 := firstE_all hge2 hb
      clear hb
      (repeat' (first | (first | (apply run_qg 1; (focus rfl); (focus exact wt); (focus rfl); (focus (exact qg1))) | (apply run_qg 2; (focus rfl); (focus exact wt); (focus rfl); (focus (exact qg2))) | (apply run_qg 3; (focus rfl); (focus exact wt); (focus rfl); (focus (exact qg3))) | (apply run_qg 4; (focus rfl); (focus exact wt); (focus rfl); (focus (exact qg4))) | (apply run_qg 5; (focus rfl); (focus exact wt); (focus rfl); (focus (exact qg5))) | (apply run_qg 6; (focus rfl); (focus exact wt); (focus rfl); (focus (exact qg6))) | refine cod_seq ?_ | refine cod_region ?_ | refine run_nil ?_ | refine pst_then ?_ | (apply cod_cond_t; (focus rfl)) | (apply cod_cond_f; (focus rfl)) | refine cod_block ?_ | refine cod_exit ?_ | refine cod_ret ?_ | refine cod_skip ?_ | refine pst_block_here ?_ | refine pst_block_out rfl ?_ | refine pst_block_ret ?_ | refine pst_then_exit ?_ | refine pst_then_ret ?_ | refine pst_block ?_ | (apply run_osg 8; (focus rfl); (focus exact wt); (focus rfl); (focus (exact opr_box_agg rfl rfl)); (rintro _ _ ⟨b, rfl, rfl⟩)) | (apply run_osg 8; (focus rfl); (focus exact wt); (focus rfl); (focus (exact opr_box_one rfl rfl rfl)); (rintro _ _ ⟨b, rfl, rfl⟩)) | (apply run_osg 8; (focus rfl); (focus exact wt); (focus rfl); (focus (exact opr_new rfl)); (rintro _ _ ⟨b, rfl, rfl⟩)) | (apply run_ong 9; (focus rfl); (focus exact wt); (focus (exact opr_store_box_agg rfl rfl rfl (by exact pka) rfl rfl rfl (by exact spla))); (rintro _ _ ⟨rfl, rfl⟩)) | (apply run_ong 9; (focus rfl); (focus exact wt); (focus (exact opr_store_box_one rfl rfl rfl rfl (by exact pka) rfl (by exact seta))); (rintro _ _ ⟨rfl, rfl⟩)) | (apply run_osg 10; (focus rfl); (focus exact wt); (focus rfl); (focus (exact opr_buildSlice rfl rfl rfl (by exact blda) rfl rfl (by decide) rfl)); (rintro _ _ ⟨q, rfl, rfl⟩)) | (apply run_offs; (focus rfl); (focus rfl); (focus rfl)) | (apply run_offn; (focus rfl); (focus rfl))) | ((first | (apply run_lss; (rotate_left 2); (focus rfl)) | (apply run_leq; (rotate_left 2); (focus rfl)) | (apply run_gtr; (rotate_left 2); (focus rfl)) | (apply run_geq; (rotate_left 2); (focus rfl)) | (apply run_eql; (rotate_left 2); (focus rfl)) | (apply run_neq; (rotate_left 2); (focus rfl)) | (apply run_seq; (rotate_left 2); (focus rfl)) | (apply run_sneq; (rotate_left 2); (focus rfl))); (focus rfl); (focus rfl); (rotate_right 2); (focus exact wt); (focus rfl); (all_goals (intro h; dsimp only [upd])))))
      · exact pst_fin rfl (by exact resa) _ (⟨by unfold checkD; rw [if_neg (by omega), if_neg (by rw [hall]; simp), if_neg (by rw [h0]; simp), if_pos (by omega)], rfl⟩) (by exact hsa)
      · exact pst_fin rfl (by exact resa) _ (⟨by unfold checkD; rw [if_neg (by omega), if_neg (by rw [hall]; simp), if_neg (by rw [h0]; simp), if_neg (by omega)], rfl⟩) (by exact hsa)
theorem firstE_good {n : Nat} {ps : List (Int × ByteArray)} (h : firstE n ps = 0) : ∀ p ∈ ps, putErr n p.1 p.2 = 0 := by
  induction ps with
  | nil => intro p hp; cases hp
  | cons q ps ih =>
    simp only [firstE] at h
    split at h
    · rename_i h1; exact absurd h h1
    · rename_i h1
      intro p hp
      rcases List.mem_cons.1 hp with rfl | hp
      · simpa using h1
      · exact ih h p hp
theorem firstE_zero {n : Nat} {ps : List (Int × ByteArray)} (h : ∀ p ∈ ps, putErr n p.1 p.2 = 0) : firstE n ps = 0 := by
  induction ps with
  | nil => rfl
  | cons q ps ih =>
    simp only [firstE]
    rw [if_neg (by simp [h q List.mem_cons_self])]
    exact ih fun p hp => h p (List.mem_cons_of_mem _ hp)
/-- a disk that may be -/
structure Good (cs : List ByteArray) (ps : List (Int × ByteArray)) : Prop where
  n0 : 1 ≤ cs.length
  n1 : cs.length ≤ 128
  cells : ∀ s ∈ cs, s.size ≤ 1024
  puts : ∀ p ∈ ps, putErr cs.length p.1 p.2 = 0
  wait : ps.length ≤ 400
theorem put_zero {n : Nat} {a : Int} {t : ByteArray} : putErr n a t = 0 ↔ 0 ≤ a ∧ a < n ∧ t.size ≤ 1024 := by
  unfold putErr
  (repeat' split) <;> constructor <;> intro h <;> first | omega | rfl
theorem good_of {cs : List ByteArray} {ps : List (Int × ByteArray)} (h : checkD cs ps = 0) : Good cs ps := by
  unfold checkD at h
  split at h
  · cases h
  · rename_i h1
    split at h
    · cases h
    · rename_i h2
      split at h
      · rename_i h3; exact absurd h h3
      · rename_i h3
        split at h
        · cases h
        · rename_i h4
          refine ⟨by omega, by omega, fun s hs => ?_, firstE_good (by simpa using h3), by omega⟩
          have h5 : ¬ ∃ x ∈ cs, bigCell x = true := by simpa using h2
          have h6 : bigCell s = false := by
            cases hb : bigCell s with
            | false => rfl
            | true => exact absurd ⟨s, hs, hb⟩ h5
          simp only [bigCell, decide_eq_false_iff_not] at h6
          omega
theorem of_good {cs : List ByteArray} {ps : List (Int × ByteArray)} (h : Good cs ps) : checkD cs ps = 0 := by
  unfold checkD
  rw [if_neg (by have := h.n0; have := h.n1; omega), if_neg ?_, if_neg (by rw [firstE_zero h.puts]; simp), if_neg (by have := h.wait; omega)]
  simp only [List.any_eq_true, not_exists, not_and]
  intro s hs hb
  have := h.cells s hs
  simp only [bigCell, decide_eq_true_eq] at hb
  omega
end Go.Proofs.Ytbgmfkhfbjgekaa.disk
