/-
  disk: Now: the walk.
-/
import Derived.Test.YtcbpeampjhegcaaDisk
namespace Go.Proofs.Ytcbpeampjhegcaa.disk
open Go.RowKit kit sl
set_option linter.unusedVariables false
attribute [local irreducible] box own sl old bptr eptr Qt Opr Run Cod Pst Drn

/-- disk.Now -/
def nowD (cs : List ByteArray) (ps : List (Int × ByteArray)) (at' : Int) : ByteArray :=
  match ps.reverse.find? fun p => p.1 == at' with
  | some p => p.2
  | none => cs.getD at'.toNat ⟨#[]⟩
theorem now_hit {cs : List ByteArray} {ps : List (Int × ByteArray)} {at' : Int} {j : Nat} {p : Int × ByteArray} (hp : ps[j]? = some p) (hd : ∀ q ∈ ps.drop (j + 1), q.1 ≠ at') (he : p.1 = at') : nowD cs ps at' = p.2 := by
  have e : ps = ps.take j ++ p :: ps.drop (j + 1) := by
    have h1 := List.getElem?_eq_some_iff.1 hp
    obtain ⟨hl, hx⟩ := h1
    rw [← hx, List.getElem_cons_drop, List.take_append_drop]
  unfold nowD
  rw [e]
  simp only [List.reverse_append, List.reverse_cons, List.append_assoc, List.find?_append]
  have h0 : (ps.drop (j + 1)).reverse.find? (fun p => p.1 == at') = none := by
    rw [List.find?_eq_none]
    intro q hq
    have := hd q (List.mem_reverse.1 hq)
    simpa using this
  rw [h0]
  simp [he]
theorem now_miss {cs : List ByteArray} {ps : List (Int × ByteArray)} {at' : Int} (hd : ∀ q ∈ ps, q.1 ≠ at') {k : Nat} {s : ByteArray} (hk : at' = (k : Int)) (hs : cs[k]? = some s) : nowD cs ps at' = s := by
  unfold nowD
  have h0 : ps.reverse.find? (fun p => p.1 == at') = none := by
    rw [List.find?_eq_none]
    intro q hq
    have := hd q (List.mem_reverse.1 hq)
    simpa using this
  rw [h0]
  subst hk
  simp [List.getD, hs]
theorem drop_mem {α : Type} {xs : List α} {j : Nat} {x : α} (hx : xs[j]? = some x) {P : α → Prop} (h : ∀ q ∈ xs.drop (j + 1), P q) (hp : P x) : ∀ q ∈ xs.drop j, P q := by
  intro q hq
  obtain ⟨hl, he⟩ := List.getElem?_eq_some_iff.1 hx
  rw [← List.getElem_cons_drop (h := hl), he] at hq
  rcases List.mem_cons.1 hq with rfl | hq
  · exact hp
  · exact h q hq
set_option maxRecDepth 100000 in
theorem now_any (a w : Option Addr) (ca cw : Nat) (cs : List ByteArray) (ps : List (Int × ByteArray)) (k : Nat) (hk : k < cs.length) (hp : ps.length ≤ 1000000) :
    Ct Try.prog 35 [.agg #[.slice a cs.length ca, .slice w ps.length cw], .int .i64 (k : Int)] [sl 1 (.slice a cs.length ca) (cs.map fS), sl 2 (.slice w ps.length cw) (ps.map fP)] fun v H' => v = .string (nowD cs ps k) ∧ H' = [] := by
  obtain ⟨s, hs⟩ : ∃ s, cs[k]? = some s := ⟨_, List.getElem?_eq_getElem hk⟩
  (refine spec_enter Try.func35 Try.ntmps35 rfl rfl fun Fr => ?_; dsimp only [List.cons_append, List.nil_append, ini, Nat.reduceAdd])
  (repeat' (first | (first | (apply run_qg 1; (focus rfl); (focus exact wt); (focus rfl); (focus (exact qg1))) | (apply run_qg 2; (focus rfl); (focus exact wt); (focus rfl); (focus (exact qg2))) | (apply run_qg 3; (focus rfl); (focus exact wt); (focus rfl); (focus (exact qg3))) | (apply run_qg 4; (focus rfl); (focus exact wt); (focus rfl); (focus (exact qg4))) | (apply run_qg 5; (focus rfl); (focus exact wt); (focus rfl); (focus (exact qg5))) | (apply run_qg 6; (focus rfl); (focus exact wt); (focus rfl); (focus (exact qg6))) | refine cod_seq ?_ | refine cod_region ?_ | refine run_nil ?_ | refine pst_then ?_ | (apply cod_cond_t; (focus rfl)) | (apply cod_cond_f; (focus rfl)) | refine cod_block ?_ | refine cod_exit ?_ | refine cod_ret ?_ | refine cod_skip ?_ | refine pst_block_here ?_ | refine pst_block_out rfl ?_ | refine pst_block_ret ?_ | refine pst_then_exit ?_ | refine pst_then_ret ?_ | refine pst_block ?_ | (apply run_osg 8; (focus rfl); (focus exact wt); (focus rfl); (focus (exact opr_box_agg rfl rfl)); (rintro _ _ ⟨b, rfl, rfl⟩)) | (apply run_osg 8; (focus rfl); (focus exact wt); (focus rfl); (focus (exact opr_box_one rfl rfl rfl)); (rintro _ _ ⟨b, rfl, rfl⟩)) | (apply run_osg 8; (focus rfl); (focus exact wt); (focus rfl); (focus (exact opr_new rfl)); (rintro _ _ ⟨b, rfl, rfl⟩)) | (apply run_ong 9; (focus rfl); (focus exact wt); (focus (exact opr_store_box_agg rfl rfl rfl (by exact pka) rfl rfl rfl (by exact spla))); (rintro _ _ ⟨rfl, rfl⟩)) | (apply run_ong 9; (focus rfl); (focus exact wt); (focus (exact opr_store_box_one rfl rfl rfl rfl (by exact pka) rfl (by exact seta))); (rintro _ _ ⟨rfl, rfl⟩)) | (apply run_osg 10; (focus rfl); (focus exact wt); (focus rfl); (focus (exact opr_buildSlice rfl rfl rfl (by exact blda) rfl rfl (by decide) rfl)); (rintro _ _ ⟨q, rfl, rfl⟩)) | (apply run_offs; (focus rfl); (focus rfl); (focus rfl)) | (apply run_offn; (focus rfl); (focus rfl))) | ((first | (apply run_lss; (rotate_left 2); (focus rfl)) | (apply run_leq; (rotate_left 2); (focus rfl)) | (apply run_gtr; (rotate_left 2); (focus rfl)) | (apply run_geq; (rotate_left 2); (focus rfl)) | (apply run_eql; (rotate_left 2); (focus rfl)) | (apply run_neq; (rotate_left 2); (focus rfl)) | (apply run_seq; (rotate_left 2); (focus rfl)) | (apply run_sneq; (rotate_left 2); (focus rfl))); (focus rfl); (focus rfl); (rotate_right 2); (focus exact wt); (focus rfl); (all_goals (intro h; dsimp only [upd])))))
  (refine cod_loop_ro (σ := Nat) (fun m => m ≤ ps.length ∧ ∀ q ∈ ps.drop m, q.1 ≠ (k : Int)) (fun m => [(5, .int .i64 ((m : Int) - 1))]) (fun m => m) (ps.length) (by simp) (by exact fsa) (fun m ⟨hm, hd⟩ => ?_); dsimp only [List.cons_append, List.nil_append])
  cases m with
  | zero =>
    (repeat' (first | (first | (apply run_qg 1; (focus rfl); (focus exact wt); (focus rfl); (focus (exact qg1))) | (apply run_qg 2; (focus rfl); (focus exact wt); (focus rfl); (focus (exact qg2))) | (apply run_qg 3; (focus rfl); (focus exact wt); (focus rfl); (focus (exact qg3))) | (apply run_qg 4; (focus rfl); (focus exact wt); (focus rfl); (focus (exact qg4))) | (apply run_qg 5; (focus rfl); (focus exact wt); (focus rfl); (focus (exact qg5))) | (apply run_qg 6; (focus rfl); (focus exact wt); (focus rfl); (focus (exact qg6))) | refine cod_seq ?_ | refine cod_region ?_ | refine run_nil ?_ | refine pst_then ?_ | (apply cod_cond_t; (focus rfl)) | (apply cod_cond_f; (focus rfl)) | refine cod_block ?_ | refine cod_exit ?_ | refine cod_ret ?_ | refine cod_skip ?_ | refine pst_block_here ?_ | refine pst_block_out rfl ?_ | refine pst_block_ret ?_ | refine pst_then_exit ?_ | refine pst_then_ret ?_ | refine pst_block ?_ | (apply run_osg 8; (focus rfl); (focus exact wt); (focus rfl); (focus (exact opr_box_agg rfl rfl)); (rintro _ _ ⟨b, rfl, rfl⟩)) | (apply run_osg 8; (focus rfl); (focus exact wt); (focus rfl); (focus (exact opr_box_one rfl rfl rfl)); (rintro _ _ ⟨b, rfl, rfl⟩)) | (apply run_osg 8; (focus rfl); (focus exact wt); (focus rfl); (focus (exact opr_new rfl)); (rintro _ _ ⟨b, rfl, rfl⟩)) | (apply run_ong 9; (focus rfl); (focus exact wt); (focus (exact opr_store_box_agg rfl rfl rfl (by exact pka) rfl rfl rfl (by exact spla))); (rintro _ _ ⟨rfl, rfl⟩)) | (apply run_ong 9; (focus rfl); (focus exact wt); (focus (exact opr_store_box_one rfl rfl rfl rfl (by exact pka) rfl (by exact seta))); (rintro _ _ ⟨rfl, rfl⟩)) | (apply run_osg 10; (focus rfl); (focus exact wt); (focus rfl); (focus (exact opr_buildSlice rfl rfl rfl (by exact blda) rfl rfl (by decide) rfl)); (rintro _ _ ⟨q, rfl, rfl⟩)) | (apply run_offs; (focus rfl); (focus rfl); (focus rfl)) | (apply run_offn; (focus rfl); (focus rfl))) | ((first | (apply run_lss; (rotate_left 2); (focus rfl)) | (apply run_leq; (rotate_left 2); (focus rfl)) | (apply run_gtr; (rotate_left 2); (focus rfl)) | (apply run_geq; (rotate_left 2); (focus rfl)) | (apply run_eql; (rotate_left 2); (focus rfl)) | (apply run_neq; (rotate_left 2); (focus rfl)) | (apply run_seq; (rotate_left 2); (focus rfl)) | (apply run_sneq; (rotate_left 2); (focus rfl))); (focus rfl); (focus rfl); (rotate_right 2); (focus exact wt); (focus rfl); (all_goals (intro h; dsimp only [upd])))))
    exact pst_fin rfl (by exact resa) _ (⟨by rw [now_miss (by simpa using hd) rfl hs], rfl⟩) (by exact hsa)
  | succ j =>
    have e : ((j + 1 : Nat) : Int) - 1 = (j : Int) := by omega
    rw [e]
    obtain ⟨p, hpj⟩ : ∃ p, ps[j]? = some p := ⟨_, List.getElem?_eq_getElem (by omega)⟩
    (repeat' (first | (first | (apply run_qg 1; (focus rfl); (focus exact wt); (focus rfl); (focus (exact qg1))) | (apply run_qg 2; (focus rfl); (focus exact wt); (focus rfl); (focus (exact qg2))) | (apply run_qg 3; (focus rfl); (focus exact wt); (focus rfl); (focus (exact qg3))) | (apply run_qg 4; (focus rfl); (focus exact wt); (focus rfl); (focus (exact qg4))) | (apply run_qg 5; (focus rfl); (focus exact wt); (focus rfl); (focus (exact qg5))) | (apply run_qg 6; (focus rfl); (focus exact wt); (focus rfl); (focus (exact qg6))) | refine cod_seq ?_ | refine cod_region ?_ | refine run_nil ?_ | refine pst_then ?_ | (apply cod_cond_t; (focus rfl)) | (apply cod_cond_f; (focus rfl)) | refine cod_block ?_ | refine cod_exit ?_ | refine cod_ret ?_ | refine cod_skip ?_ | refine pst_block_here ?_ | refine pst_block_out rfl ?_ | refine pst_block_ret ?_ | refine pst_then_exit ?_ | refine pst_then_ret ?_ | refine pst_block ?_ | (apply run_osg 8; (focus rfl); (focus exact wt); (focus rfl); (focus (exact opr_box_agg rfl rfl)); (rintro _ _ ⟨b, rfl, rfl⟩)) | (apply run_osg 8; (focus rfl); (focus exact wt); (focus rfl); (focus (exact opr_box_one rfl rfl rfl)); (rintro _ _ ⟨b, rfl, rfl⟩)) | (apply run_osg 8; (focus rfl); (focus exact wt); (focus rfl); (focus (exact opr_new rfl)); (rintro _ _ ⟨b, rfl, rfl⟩)) | (apply run_ong 9; (focus rfl); (focus exact wt); (focus (exact opr_store_box_agg rfl rfl rfl (by exact pka) rfl rfl rfl (by exact spla))); (rintro _ _ ⟨rfl, rfl⟩)) | (apply run_ong 9; (focus rfl); (focus exact wt); (focus (exact opr_store_box_one rfl rfl rfl rfl (by exact pka) rfl (by exact seta))); (rintro _ _ ⟨rfl, rfl⟩)) | (apply run_osg 10; (focus rfl); (focus exact wt); (focus rfl); (focus (exact opr_buildSlice rfl rfl rfl (by exact blda) rfl rfl (by decide) rfl)); (rintro _ _ ⟨q, rfl, rfl⟩)) | (apply run_offs; (focus rfl); (focus rfl); (focus rfl)) | (apply run_offn; (focus rfl); (focus rfl))) | ((first | (apply run_lss; (rotate_left 2); (focus rfl)) | (apply run_leq; (rotate_left 2); (focus rfl)) | (apply run_gtr; (rotate_left 2); (focus rfl)) | (apply run_geq; (rotate_left 2); (focus rfl)) | (apply run_eql; (rotate_left 2); (focus rfl)) | (apply run_neq; (rotate_left 2); (focus rfl)) | (apply run_seq; (rotate_left 2); (focus rfl)) | (apply run_sneq; (rotate_left 2); (focus rfl))); (focus rfl); (focus rfl); (rotate_right 2); (focus exact wt); (focus rfl); (all_goals (intro h; dsimp only [upd])))))
    · exact pst_fin rfl (by exact resa) _ (⟨by rw [now_hit hpj hd ‹_›], rfl⟩) (by exact hsa)
    · refine pst_again (j) ?_ (FSub.of (by (try dsimp only); exact fsa)) (by (try dsimp only); exact hsa) ?_
      · exact ⟨by omega, drop_mem hpj hd ‹_›⟩
      · exact Nat.lt_succ_self j
end Go.Proofs.Ytcbpeampjhegcaa.disk
