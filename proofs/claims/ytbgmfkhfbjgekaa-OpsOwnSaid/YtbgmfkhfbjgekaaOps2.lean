/-
  ops: Until: the walk.
-/
import Derived.Test.YtbgmfkhfbjgekaaOps
namespace Go.Proofs.Ytbgmfkhfbjgekaa.ops
open Go.RowKit kit sl Go.Proofs.Ytbgmfkhfbjgekaa.sleq Go.Proofs.Ytbgmfkhfbjgekaa.disk
set_option linter.unusedVariables false
attribute [local irreducible] box own sl old bptr eptr Qt Opr Run Cod Pst Drn
set_option maxRecDepth 100000 in
set_option maxHeartbeats 8000000 in
theorem until_ok (a w ql qk : Option Addr) (ca cw cl ck : Nat) {cs : List ByteArray} {ps : List (Int × ByteArray)} {l : List Op} {ks : List Bool} {m : Nat} (hm : m ≤ l.length) (h : playE (cs, ps) (l.take m) = 0) (hg : disk.Good (play (cs, ps) (l.take m)).2.1 (play (cs, ps) (l.take m)).2.2) (hc : cs.length * 16 ≤ 140737488355328) (hp : ps.length * 24 ≤ 140737488355328) (hl : l.length ≤ maxLen) (hk : ks.length ≤ maxLen) :
    Ct Try.prog 65 [.agg #[.slice a cs.length ca, .slice w ps.length cw], .slice ql l.length cl, .int .i64 (m : Int), .slice qk ks.length ck] [sl 1 (.slice a cs.length ca) (cs.map fS), sl 2 (.slice w ps.length cw) (ps.map fP), sl 3 (.slice ql l.length cl) (l.map fIIS), sl 1 (.slice qk ks.length ck) (ks.map fB)] (Cells (land (fun i => ks.getD i false) 0 (play (cs, ps) (l.take m)).2.1 (play (cs, ps) (l.take m)).2.2)) := by
  have htl : (l.take m).length = m := by simp; omega
  have PL0 := play_any a w ql ca cw cl cs ps (l.take m) hc hp (by rw [htl]; omega)
  rw [htl, h] at PL0
  have PL : Ct Try.prog 55 [.agg #[.slice a cs.length ca, .slice w ps.length cw], .slice ql m cl] [sl 1 (.slice a cs.length ca) (cs.map fS), sl 2 (.slice w ps.length cw) (ps.map fP), sl 3 (.slice ql m cl) ((l.take m).map fIIS)] (NewDisk (play (cs, ps) (l.take m)).2.1 (play (cs, ps) (l.take m)).2.2) := ct_imp PL0 fun v H' hr => by
    rcases hr with ⟨h1, _⟩ | ⟨_, h1⟩
    · exact absurd rfl h1
    · exact h1
  clear PL0 htl h
  generalize play (cs, ps) (l.take m) = r at PL hg ⊢
  obtain ⟨e, cs1, ps1⟩ := r
  dsimp only at PL hg ⊢
  have CR := fun a w ca cw => crash_ok a w ca cw qk ck hg hk
  (refine spec_enter Try.func65 Try.ntmps65 rfl rfl fun Fr => ?_; dsimp only [List.cons_append, List.nil_append, ini, Nat.reduceAdd])
  (repeat' (first | (first | (apply run_qg 1; (focus rfl); (focus exact wt); (focus rfl); (focus (exact qg1))) | (apply run_qg 2; (focus rfl); (focus exact wt); (focus rfl); (focus (exact qg2))) | (apply run_qg 3; (focus rfl); (focus exact wt); (focus rfl); (focus (exact qg3))) | (apply run_qg 4; (focus rfl); (focus exact wt); (focus rfl); (focus (exact qg4))) | (apply run_qg 5; (focus rfl); (focus exact wt); (focus rfl); (focus (exact qg5))) | (apply run_qg 6; (focus rfl); (focus exact wt); (focus rfl); (focus (exact qg6))) | refine cod_seq ?_ | refine cod_region ?_ | refine run_nil ?_ | refine pst_then ?_ | (apply cod_cond_t; (focus rfl)) | (apply cod_cond_f; (focus rfl)) | refine cod_block ?_ | refine cod_exit ?_ | refine cod_ret ?_ | refine cod_skip ?_ | refine pst_block_here ?_ | refine pst_block_out rfl ?_ | refine pst_block_ret ?_ | refine pst_then_exit ?_ | refine pst_then_ret ?_ | refine pst_block ?_ | (apply run_osg 8; (focus rfl); (focus exact wt); (focus rfl); (focus (exact opr_box_agg rfl rfl)); (rintro _ _ ⟨b, rfl, rfl⟩)) | (apply run_osg 8; (focus rfl); (focus exact wt); (focus rfl); (focus (exact opr_box_one rfl rfl rfl)); (rintro _ _ ⟨b, rfl, rfl⟩)) | (apply run_osg 8; (focus rfl); (focus exact wt); (focus rfl); (focus (exact opr_new rfl)); (rintro _ _ ⟨b, rfl, rfl⟩)) | (apply run_ong 9; (focus rfl); (focus exact wt); (focus (exact opr_store_box_agg rfl rfl rfl (by exact pka) rfl rfl rfl (by exact spla))); (rintro _ _ ⟨rfl, rfl⟩)) | (apply run_ong 9; (focus rfl); (focus exact wt); (focus (exact opr_store_box_one rfl rfl rfl rfl (by exact pka) rfl (by exact seta))); (rintro _ _ ⟨rfl, rfl⟩)) | (apply run_osg 10; (focus rfl); (focus exact wt); (focus rfl); (focus (exact opr_buildSlice rfl rfl rfl (by exact blda) rfl rfl (by decide) rfl)); (rintro _ _ ⟨q, rfl, rfl⟩)) | (apply run_offs; (focus rfl); (focus rfl); (focus rfl)) | (apply run_offn; (focus rfl); (focus rfl))) | ((first | (apply run_lss; (rotate_left 2); (focus rfl)) | (apply run_leq; (rotate_left 2); (focus rfl)) | (apply run_gtr; (rotate_left 2); (focus rfl)) | (apply run_geq; (rotate_left 2); (focus rfl)) | (apply run_eql; (rotate_left 2); (focus rfl)) | (apply run_neq; (rotate_left 2); (focus rfl)) | (apply run_seq; (rotate_left 2); (focus rfl)) | (apply run_sneq; (rotate_left 2); (focus rfl))); (focus rfl); (focus rfl); (rotate_right 2); (focus exact wt); (focus rfl); (all_goals (intro h; dsimp only [upd])))))
  refine cod_cut_drop 0 (σ := Nat × Option Addr × Nat × Option Addr × Nat) (fun _ => True) (fun x => [(10, bptr x.1 0), (11, .int .i64 0)]) (fun x => [box x.1 [.slice x.2.1 cs1.length x.2.2.1, .slice x.2.2.2.1 ps1.length x.2.2.2.2] 60, own (.slice x.2.1 cs1.length x.2.2.1) 9 1 cs1.length (flat fS cs1), own (.slice x.2.2.2.1 ps1.length x.2.2.2.2) 63 2 ps1.length (flat fP ps1)]) ?_ ?_ <;> dsimp only [List.drop]
  · refine cod_drawn_sel (Hq := [_, _]) [1, 4] [] rfl (by kernel_rfl) ?_
    (refine drnL_start [0, 1, 2, 3, 4, 5] ?_; (repeat (first | (apply drnL_take; (focus rfl); (focus exact wt); (focus kernel_rfl); (focus exact hsq); (focus rfl); (focus exact qta)) | (apply drnL_off; (focus rfl); (focus rfl); (focus rfl); (focus kernel_rfl); (focus exact hsq); (focus rfl)))); refine drnL_end ?_)
    refine drn_take_s 6 (by rfl) wt (by kernel_rfl) hsq (by rfl) (q_slice_h (m := m) rfl rfl rfl pka (by omega) (by omega)) ?_
    refine drn_two 7 11 (by kernel_rfl) ?_ ?_
    · refine drn_s 7 (by rfl) wt (by rfl) (opr_call_l rfl (PL) rfl lpa) ?_; rintro _ _ ⟨_, ⟨qa1, ca1, qw1, cw1, rfl, rfl⟩, rfl⟩; refine ⟨(by first | exact fun _ => hsq | exact fun h => absurd h (by decide)), ?_⟩; dsimp only [List.cons_append, List.nil_append]
      (refine drnL_start [8, 9, 10] ?_; (repeat (first | (apply drnL_take; (focus rfl); (focus exact wt); (focus kernel_rfl); (focus exact hsq); (focus rfl); (focus exact qta)) | (apply drnL_off; (focus rfl); (focus rfl); (focus rfl); (focus kernel_rfl); (focus exact hsq); (focus rfl)))); refine drnL_end ?_)
      (first | refine drn_one 11 (by kernel_rfl) (drn_s 11 (by rfl) wt (by rfl) (by exact opr_new rfl) ?_) | refine drn_one 11 (by kernel_rfl) (drn_n 11 (by rfl) wt (by exact opr_new rfl) ?_)); rintro _ _ ⟨b7, rfl, rfl⟩; refine ⟨(by first | exact fun _ => (by exact hsq) | exact fun h => absurd h (by decide)), ?_⟩
      (first | refine drn_one 12 (by kernel_rfl) (drn_s 12 (by rfl) wt (by rfl) (by exact (by first | exact opr_store_box_agg rfl rfl rfl (by exact pka) rfl rfl rfl (by exact spla) | exact opr_store_box_one rfl rfl rfl rfl (by exact pka) rfl (by exact seta))) ?_) | refine drn_one 12 (by kernel_rfl) (drn_n 12 (by rfl) wt (by exact (by first | exact opr_store_box_agg rfl rfl rfl (by exact pka) rfl rfl rfl (by exact spla) | exact opr_store_box_one rfl rfl rfl rfl (by exact pka) rfl (by exact seta))) ?_)); rintro _ _ ⟨rfl, rfl⟩; refine ⟨(by first | exact fun _ => (by exact hsq) | exact fun h => absurd h (by decide)), ?_⟩
      (refine drnL_start [13] ?_; (repeat (first | (apply drnL_take; (focus rfl); (focus exact wt); (focus kernel_rfl); (focus exact hsq); (focus rfl); (focus exact qta)) | (apply drnL_off; (focus rfl); (focus rfl); (focus rfl); (focus kernel_rfl); (focus exact hsq); (focus rfl)))); refine drnL_end ?_)
      refine drn_done (by kernel_rfl) ?_
      exact pst_cut ((b7, qa1, ca1, qw1, cw1)) (by trivial) (FSub.of fsa) hsa
    · (first | refine drn_s 11 (by rfl) wt (by rfl) (by exact opr_new rfl) ?_ | refine drn_n 11 (by rfl) wt (by exact opr_new rfl) ?_); rintro _ _ ⟨b7, rfl, rfl⟩; refine ⟨(by first | exact fun _ => (by exact hsq) | exact fun h => absurd h (by decide)), ?_⟩
      refine drn_one 7 (by kernel_rfl) (drn_s 7 (by rfl) wt (by rfl) (opr_call_l rfl (PL) rfl lpa) ?_); rintro _ _ ⟨_, ⟨qa1, ca1, qw1, cw1, rfl, rfl⟩, rfl⟩; refine ⟨(by first | exact fun _ => hsq | exact fun h => absurd h (by decide)), ?_⟩; dsimp only [List.cons_append, List.nil_append]
      (refine drnL_start [8, 9, 10] ?_; (repeat (first | (apply drnL_take; (focus rfl); (focus exact wt); (focus kernel_rfl); (focus exact hsq); (focus rfl); (focus exact qta)) | (apply drnL_off; (focus rfl); (focus rfl); (focus rfl); (focus kernel_rfl); (focus exact hsq); (focus rfl)))); refine drnL_end ?_)
      (first | refine drn_one 12 (by kernel_rfl) (drn_s 12 (by rfl) wt (by rfl) (by exact (by first | exact opr_store_box_agg rfl rfl rfl (by exact pka) rfl rfl rfl (by exact spla) | exact opr_store_box_one rfl rfl rfl rfl (by exact pka) rfl (by exact seta))) ?_) | refine drn_one 12 (by kernel_rfl) (drn_n 12 (by rfl) wt (by exact (by first | exact opr_store_box_agg rfl rfl rfl (by exact pka) rfl rfl rfl (by exact spla) | exact opr_store_box_one rfl rfl rfl rfl (by exact pka) rfl (by exact seta))) ?_)); rintro _ _ ⟨rfl, rfl⟩; refine ⟨(by first | exact fun _ => (by exact hsq) | exact fun h => absurd h (by decide)), ?_⟩
      (refine drnL_start [13] ?_; (repeat (first | (apply drnL_take; (focus rfl); (focus exact wt); (focus kernel_rfl); (focus exact hsq); (focus rfl); (focus exact qta)) | (apply drnL_off; (focus rfl); (focus rfl); (focus rfl); (focus kernel_rfl); (focus exact hsq); (focus rfl)))); refine drnL_end ?_)
      refine drn_done (by kernel_rfl) ?_
      exact pst_cut ((b7, qa1, ca1, qw1, cw1)) (by trivial) (FSub.of fsa) hsa
  · rintro ⟨b7, qa1, ca1, qw1, cw1⟩ _
    dsimp only [List.cons_append, List.nil_append]
    (repeat' (first | (first | (apply run_qg 1; (focus rfl); (focus exact wt); (focus rfl); (focus (exact qg1))) | (apply run_qg 2; (focus rfl); (focus exact wt); (focus rfl); (focus (exact qg2))) | (apply run_qg 3; (focus rfl); (focus exact wt); (focus rfl); (focus (exact qg3))) | (apply run_qg 4; (focus rfl); (focus exact wt); (focus rfl); (focus (exact qg4))) | (apply run_qg 5; (focus rfl); (focus exact wt); (focus rfl); (focus (exact qg5))) | (apply run_qg 6; (focus rfl); (focus exact wt); (focus rfl); (focus (exact qg6))) | refine cod_seq ?_ | refine cod_region ?_ | refine run_nil ?_ | refine pst_then ?_ | (apply cod_cond_t; (focus rfl)) | (apply cod_cond_f; (focus rfl)) | refine cod_block ?_ | refine cod_exit ?_ | refine cod_ret ?_ | refine cod_skip ?_ | refine pst_block_here ?_ | refine pst_block_out rfl ?_ | refine pst_block_ret ?_ | refine pst_then_exit ?_ | refine pst_then_ret ?_ | refine pst_block ?_ | (apply run_osg 8; (focus rfl); (focus exact wt); (focus rfl); (focus (exact opr_box_agg rfl rfl)); (rintro _ _ ⟨b, rfl, rfl⟩)) | (apply run_osg 8; (focus rfl); (focus exact wt); (focus rfl); (focus (exact opr_box_one rfl rfl rfl)); (rintro _ _ ⟨b, rfl, rfl⟩)) | (apply run_osg 8; (focus rfl); (focus exact wt); (focus rfl); (focus (exact opr_new rfl)); (rintro _ _ ⟨b, rfl, rfl⟩)) | (apply run_ong 9; (focus rfl); (focus exact wt); (focus (exact opr_store_box_agg rfl rfl rfl (by exact pka) rfl rfl rfl (by exact spla))); (rintro _ _ ⟨rfl, rfl⟩)) | (apply run_ong 9; (focus rfl); (focus exact wt); (focus (exact opr_store_box_one rfl rfl rfl rfl (by exact pka) rfl (by exact seta))); (rintro _ _ ⟨rfl, rfl⟩)) | (apply run_osg 10; (focus rfl); (focus exact wt); (focus rfl); (focus (exact opr_buildSlice rfl rfl rfl (by exact blda) rfl rfl (by decide) rfl)); (rintro _ _ ⟨q, rfl, rfl⟩)) | (apply run_offs; (focus rfl); (focus rfl); (focus rfl)) | (apply run_offn; (focus rfl); (focus rfl))) | ((first | (apply run_lss; (rotate_left 2); (focus rfl)) | (apply run_leq; (rotate_left 2); (focus rfl)) | (apply run_gtr; (rotate_left 2); (focus rfl)) | (apply run_geq; (rotate_left 2); (focus rfl)) | (apply run_eql; (rotate_left 2); (focus rfl)) | (apply run_neq; (rotate_left 2); (focus rfl)) | (apply run_seq; (rotate_left 2); (focus rfl)) | (apply run_sneq; (rotate_left 2); (focus rfl))); (focus rfl); (focus rfl); (rotate_right 2); (focus exact wt); (focus rfl); (all_goals (intro h; dsimp only [upd])))))
    (refine run_os wt rfl (opr_call_l rfl (CR _ _ _ _) rfl (by exact lpa)) ?_; rintro _ _ ⟨_, ⟨qa2, ca2, rfl, rfl⟩, rfl⟩; dsimp only [List.cons_append, List.nil_append])
    (repeat' (first | (first | (apply run_qg 1; (focus rfl); (focus exact wt); (focus rfl); (focus (exact qg1))) | (apply run_qg 2; (focus rfl); (focus exact wt); (focus rfl); (focus (exact qg2))) | (apply run_qg 3; (focus rfl); (focus exact wt); (focus rfl); (focus (exact qg3))) | (apply run_qg 4; (focus rfl); (focus exact wt); (focus rfl); (focus (exact qg4))) | (apply run_qg 5; (focus rfl); (focus exact wt); (focus rfl); (focus (exact qg5))) | (apply run_qg 6; (focus rfl); (focus exact wt); (focus rfl); (focus (exact qg6))) | refine cod_seq ?_ | refine cod_region ?_ | refine run_nil ?_ | refine pst_then ?_ | (apply cod_cond_t; (focus rfl)) | (apply cod_cond_f; (focus rfl)) | refine cod_block ?_ | refine cod_exit ?_ | refine cod_ret ?_ | refine cod_skip ?_ | refine pst_block_here ?_ | refine pst_block_out rfl ?_ | refine pst_block_ret ?_ | refine pst_then_exit ?_ | refine pst_then_ret ?_ | refine pst_block ?_ | (apply run_osg 8; (focus rfl); (focus exact wt); (focus rfl); (focus (exact opr_box_agg rfl rfl)); (rintro _ _ ⟨b, rfl, rfl⟩)) | (apply run_osg 8; (focus rfl); (focus exact wt); (focus rfl); (focus (exact opr_box_one rfl rfl rfl)); (rintro _ _ ⟨b, rfl, rfl⟩)) | (apply run_osg 8; (focus rfl); (focus exact wt); (focus rfl); (focus (exact opr_new rfl)); (rintro _ _ ⟨b, rfl, rfl⟩)) | (apply run_ong 9; (focus rfl); (focus exact wt); (focus (exact opr_store_box_agg rfl rfl rfl (by exact pka) rfl rfl rfl (by exact spla))); (rintro _ _ ⟨rfl, rfl⟩)) | (apply run_ong 9; (focus rfl); (focus exact wt); (focus (exact opr_store_box_one rfl rfl rfl rfl (by exact pka) rfl (by exact seta))); (rintro _ _ ⟨rfl, rfl⟩)) | (apply run_osg 10; (focus rfl); (focus exact wt); (focus rfl); (focus (exact opr_buildSlice rfl rfl rfl (by exact blda) rfl rfl (by decide) rfl)); (rintro _ _ ⟨q, rfl, rfl⟩)) | (apply run_offs; (focus rfl); (focus rfl); (focus rfl)) | (apply run_offn; (focus rfl); (focus rfl))) | ((first | (apply run_lss; (rotate_left 2); (focus rfl)) | (apply run_leq; (rotate_left 2); (focus rfl)) | (apply run_gtr; (rotate_left 2); (focus rfl)) | (apply run_geq; (rotate_left 2); (focus rfl)) | (apply run_eql; (rotate_left 2); (focus rfl)) | (apply run_neq; (rotate_left 2); (focus rfl)) | (apply run_seq; (rotate_left 2); (focus rfl)) | (apply run_sneq; (rotate_left 2); (focus rfl))); (focus rfl); (focus rfl); (rotate_right 2); (focus exact wt); (focus rfl); (all_goals (intro h; dsimp only [upd])))))
    exact pst_fin rfl (by exact resa) _ (⟨_, _, rfl, rfl⟩) (by exact hsa)
theorem play_good {s : St} {l : List Op} (hg : disk.Good s.1 s.2) (h : (play s l).1 = 0) : disk.Good (play s l).2.1 (play s l).2.2 := by
  induction l generalizing s with
  | nil => exact hg
  | cons o l ih =>
    simp only [play] at h ⊢
    split at h
    · rename_i h1; exact absurd h h1
    · rename_i h1
      rw [if_neg h1]
      exact ih (step_good hg (by simpa using h1)) h
theorem play_app {s : St} {l m : List Op} : play s (l ++ m) = if (play s l).1 ≠ 0 then play s l else play (play s l).2 m := by
  induction l generalizing s with
  | nil => simp [play]
  | cons o l ih =>
    simp only [List.cons_append, play]
    by_cases h1 : (step1 s o).1 ≠ 0
    · simp only [if_pos h1]
    · simp only [if_neg h1]
      exact ih
/-- the disk that Play hands back -/
def outS (s : St) (l : List Op) : St := if playE s l = 0 then (play s l).2 else ([], [])
theorem out_good {s : St} {l : List Op} (h : playE s l = 0) : disk.Good (outS s l).1 (outS s l).2 := by
  unfold outS
  rw [if_pos h]
  unfold playE at h
  split at h
  · rename_i h1; exact absurd h h1
  · rename_i h1
    exact play_good (good_of (by simpa using h1)) h
theorem out_bad {s : St} {l m : List Op} (h : playE s l ≠ 0) : playE s (l ++ m) = playE s l ∧ outS s (l ++ m) = outS s l := by
  have h1 : playE s (l ++ m) = playE s l := by
    unfold playE at h ⊢
    split
    · rfl
    · rename_i h2
      rw [if_neg h2] at h
      rw [play_app, if_pos h]
  refine ⟨h1, ?_⟩
  unfold outS
  rw [h1, if_neg h]
  rw [if_neg h]
theorem out_app {s : St} {l m : List Op} (h : playE s l = 0) : playE (outS s l) m = playE s (l ++ m) ∧ outS (outS s l) m = outS s (l ++ m) := by
  have hg := out_good h
  have e0 : outS s l = (play s l).2 := by unfold outS; rw [if_pos h]
  have hc : ¬ checkD s.1 s.2 ≠ 0 := by
    unfold playE at h
    split at h
    · rename_i h1; exact absurd h h1
    · rename_i h1; exact h1
  have hp : (play s l).1 = 0 := by
    unfold playE at h
    rw [if_neg hc] at h
    exact h
  have h1 : playE (outS s l) m = playE s (l ++ m) := by
    unfold playE
    rw [if_neg (by simp [of_good hg]), if_neg hc, play_app, if_neg (by simp [hp]), e0]
  refine ⟨h1, ?_⟩
  have h2 : (play s (l ++ m)).2 = (play (outS s l) m).2 := by rw [play_app, if_neg (by simp [hp]), e0]
  unfold outS at h1 h2 ⊢
  rw [h1, h2]
theorem ct_imp_h {P : Program} {f : FuncId} {args : List Value} {H : List Ent} {R R' : Value → List Ent → Prop} (h : Ct P f args H R) (hi : ∀ v H', R v H' → ∃ H2, R' v H2 ∧ ∀ Fr, HSub (H' ++ Fr) (H2 ++ Fr)) : Ct P f args H R' :=
  ⟨fun Fr w hw => (h.go Fr w hw).mono fun e w' ⟨v, H', h1, h2, h3⟩ => by
    obtain ⟨H2, k1, k2⟩ := hi v H' h2
    exact ⟨v, H2, h1, k1, k2 Fr w' h3⟩⟩
theorem play_out (a w ql : Option Addr) (ca cw cl : Nat) (cs : List ByteArray) (ps : List (Int × ByteArray)) (l : List Op) (hc : cs.length * 16 ≤ 140737488355328) (hp : ps.length * 24 ≤ 140737488355328) (hl : l.length ≤ maxLen) :
    Ct Try.prog 55 [.agg #[.slice a cs.length ca, .slice w ps.length cw], .slice ql l.length cl] [sl 1 (.slice a cs.length ca) (cs.map fS), sl 2 (.slice w ps.length cw) (ps.map fP), sl 3 (.slice ql l.length cl) (l.map fIIS)] fun v H' => ∃ qa ca' qw cw', v = .tuple #[.agg #[.slice qa (outS (cs, ps) l).1.length ca', .slice qw (outS (cs, ps) l).2.length cw'], .int .i64 (playE (cs, ps) l)] ∧ H' = [own (.slice qa (outS (cs, ps) l).1.length ca') 9 1 (outS (cs, ps) l).1.length (flat fS (outS (cs, ps) l).1), own (.slice qw (outS (cs, ps) l).2.length cw') 63 2 (outS (cs, ps) l).2.length (flat fP (outS (cs, ps) l).2)] :=
  ct_imp_h (play_any a w ql ca cw cl cs ps l hc hp hl) fun v H' hr => by
    rcases hr with ⟨h1, rfl, rfl⟩ | ⟨h1, qa, ca', qw, cw', rfl, rfl⟩
    · have e0 : outS (cs, ps) l = ([], []) := by unfold outS; rw [if_neg h1]
      rw [e0]
      exact ⟨_, ⟨none, 0, none, 0, rfl, rfl⟩, fun Fr => HSub.of_nild (Nild.nil (Nild.nil Nild.refl)) (HSub.refl _)⟩
    · have e0 : outS (cs, ps) l = (play (cs, ps) l).2 := by unfold outS; rw [if_pos h1]
      rw [e0, h1]
      exact ⟨_, ⟨qa, ca', qw, cw', rfl, rfl⟩, fun Fr => HSub.refl _⟩
end Go.Proofs.Ytbgmfkhfbjgekaa.ops
