/-
  ops: lean ops leave the same contents: with no program in sight; slices.Equal of ops.
-/
import Derived.Test.YtbgmfkhfbjgekaaLean
namespace Go.Proofs.Ytbgmfkhfbjgekaa.ops
open Go.RowKit kit sl Go.Proofs.Ytbgmfkhfbjgekaa.sleq Go.Proofs.Ytbgmfkhfbjgekaa.disk
set_option linter.unusedVariables false
theorem lean_mem {o : Op} {l : List Op} (h : o ∈ (leanR l).1) : o ∈ l := by
  induction l with
  | nil => cases h
  | cons p l ih =>
    simp only [leanR] at h
    split at h
    · split at h
      · rcases List.mem_cons.1 h with h | h
        · rw [h]; exact List.mem_cons_self
        · exact List.mem_cons_of_mem _ (ih h)
      · exact List.mem_cons_of_mem _ (ih h)
    · rcases List.mem_cons.1 h with h | h
      · rw [h]; exact List.mem_cons_self
      · exact List.mem_cons_of_mem _ (ih h)
theorem lean_lean (l : List Op) : leanR (leanR l).1 = leanR l := by
  induction l with
  | nil => rfl
  | cons o l ih =>
    by_cases h1 : o.1 = 1
    · by_cases h2 : (leanR l).2 o.2.1 = 0
      · have e : leanR (o :: l) = (o :: (leanR l).1, fun j => if j = o.2.1 then 1 else (leanR l).2 j) := by simp only [leanR, if_pos h1, if_pos h2]
        rw [e]
        simp only [leanR, ih, if_pos h1, if_pos h2]
      · have e : leanR (o :: l) = leanR l := by simp only [leanR, if_pos h1, if_neg h2]
        rw [e]
        exact ih
    · have e : leanR (o :: l) = (o :: (leanR l).1, fun _ => 0) := by simp only [leanR, if_neg h1]
      rw [e]
      simp only [leanR, if_neg h1, ih]
theorem land_of_now {cs : List ByteArray} {ps ps' : List (Int × ByteArray)} (hg : disk.Good cs ps) (hg' : disk.Good cs ps') (h : ∀ x : Nat, x < cs.length → nowD cs ps x = nowD cs ps' x) : land (fun _ => true) 0 cs ps = land (fun _ => true) 0 cs ps' := by
  have l1 := land_len (fun _ => true) ps 0 cs
  have l2 := land_len (fun _ => true) ps' 0 cs
  refine List.ext_getElem (by rw [l1, l2]) fun i h1 h2 => ?_
  have k1 := now_land (k := i) 0 cs (good_in hg)
  have k2 := now_land (k := i) 0 cs (good_in hg')
  have k3 := h i (by rw [← l1]; exact h1)
  rw [← k1, ← k2] at k3
  simpa [nowD, List.getD, h1, h2] using k3
theorem lean_same : ∀ (l : List Op) (cs : List ByteArray) (ps ps' : List (Int × ByteArray)), disk.Good cs ps → disk.Good cs ps' → ps'.length ≤ ps.length → (∀ x : Nat, x < cs.length → (leanR l).2 x = 0 → nowD cs ps x = nowD cs ps' x) → (play (cs, ps) l).1 = 0 →
    ∃ cs1 ps1 ps2, play (cs, ps) l = (0, (cs1, ps1)) ∧ play (cs, ps') (leanR l).1 = (0, (cs1, ps2)) ∧ land (fun _ => true) 0 cs1 ps1 = land (fun _ => true) 0 cs1 ps2 := by
  intro l
  induction l with
  | nil => exact fun cs ps ps' hg hg' hl h _ => ⟨cs, ps, ps', rfl, rfl, land_of_now hg hg' fun x hx => h x hx rfl⟩
  | cons o l ih =>
    intro cs ps ps' hg hg' hl h h0
    obtain ⟨kd, at', text⟩ := o
    simp only [play] at h0 ⊢
    by_cases hs : (step1 (cs, ps) (kd, at', text)).1 ≠ 0
    · rw [if_pos hs] at h0
      exact absurd h0 hs
    · rw [if_neg hs] at h0 ⊢
      have hs0 : (step1 (cs, ps) (kd, at', text)).1 = 0 := by simpa using hs
      have hgn := step_good (s := (cs, ps)) hg hs0
      by_cases h1 : kd = 1
      · subst h1
        have e1 : step1 (cs, ps) (1, at', text) = (writeE cs ps at' text, (cs, ps ++ [(at', text)])) := rfl
        have e2 : step1 (cs, ps') (1, at', text) = (writeE cs ps' at' text, (cs, ps' ++ [(at', text)])) := rfl
        rw [e1] at hs0 hgn h0 ⊢
        dsimp only at hs0 hgn h0 ⊢
        obtain ⟨_, hp, _⟩ := good_more hs0
        have hlt : ps.length ≠ 400 := fun e => by
          unfold writeE at hs0
          rw [if_neg (by simp [of_good hg]), if_neg (by simp [hp]), if_pos e] at hs0
          cases hs0
        have hw' : writeE cs ps' at' text = 0 := by
          unfold writeE
          have := hg.wait
          rw [if_neg (by simp [of_good hg']), if_neg (by simp [hp]), if_neg (by omega)]
        by_cases h2 : (leanR l).2 at' = 0
        · have el : leanR ((1, at', text) :: l) = ((1, at', text) :: (leanR l).1, fun j => if j = at' then 1 else (leanR l).2 j) := by simp only [leanR, if_pos, if_pos h2]
          rw [el] at h ⊢
          dsimp only at h ⊢
          simp only [play, e2, hw', ne_eq, not_true_eq_false, if_false]
          refine ih cs _ _ hgn (good_more hw').2.2 (by simp; exact hl) (fun x hx h3 => ?_) h0
          rw [now_put, now_put]
          by_cases e : at' = (x : Int)
          · rw [if_pos e, if_pos e]
          · rw [if_neg e, if_neg e]
            refine h x hx ?_
            rw [if_neg (fun e' => e e'.symm)]
            exact h3
        · have el : leanR ((1, at', text) :: l) = leanR l := by simp only [leanR, if_pos, if_neg h2]
          rw [el] at h ⊢
          refine ih cs _ _ hgn hg' (by simp; omega) (fun x hx h3 => ?_) h0
          rw [now_put, if_neg (fun e => h2 (by rw [e]; exact h3))]
          exact h x hx h3
      · by_cases h2 : kd = 2
        · subst h2
          by_cases h3 : at' = 0 ∧ text = ⟨#[]⟩
          · obtain ⟨rfl, rfl⟩ := h3
            have e1 : step1 (cs, ps) (2, 0, ⟨#[]⟩) = (0, (land (fun _ => true) 0 cs ps, [])) := rfl
            have e2 : step1 (cs, ps') (2, 0, ⟨#[]⟩) = (0, (land (fun _ => true) 0 cs ps', [])) := rfl
            have el : leanR ((2, 0, ⟨#[]⟩) :: l) = ((2, 0, ⟨#[]⟩) :: (leanR l).1, fun _ => 0) := by simp only [leanR]; rw [if_neg (by decide)]
            rw [el] at h ⊢
            dsimp only at h ⊢
            have hla := land_of_now hg hg' fun x hx => h x hx rfl
            rw [e1] at hgn h0 ⊢
            dsimp only at hgn h0 ⊢
            simp only [play, e2, ne_eq, not_true_eq_false, if_false]
            rw [← hla]
            exact ih _ [] [] hgn hgn (Nat.le_refl _) (fun x hx _ => rfl) h0
          · have e1 : step1 (cs, ps) (2, at', text) = (4, (cs, ps)) := by
              unfold step1
              rw [if_neg (by show ¬ (2 : Int) = 1; decide), if_pos rfl, if_neg h3]
            rw [e1] at hs0
            exact absurd (show (4 : Int) = 0 from hs0) (by decide)
        · have e1 : step1 (cs, ps) (kd, at', text) = (4, (cs, ps)) := by
            unfold step1
            rw [if_neg h1, if_neg h2]
          rw [e1] at hs0
          exact absurd (show (4 : Int) = 0 from hs0) (by decide)
theorem lean_out {s : St} {l : List Op} (h : playE s l = 0) : playE s (leanR l).1 = 0 ∧ (outS s (leanR l).1).1 = (outS s l).1 ∧ land (fun _ => true) 0 (outS s l).1 (outS s (leanR l).1).2 = land (fun _ => true) 0 (outS s l).1 (outS s l).2 := by
  have hc : ¬ checkD s.1 s.2 ≠ 0 := by
    unfold playE at h
    split at h
    · rename_i h1; exact absurd h h1
    · rename_i h1; exact h1
  have hp : (play s l).1 = 0 := by
    unfold playE at h
    rw [if_neg hc] at h
    exact h
  have hg := good_of (by simpa using hc)
  obtain ⟨cs1, ps1, ps2, k1, k2, k3⟩ := lean_same l s.1 s.2 s.2 hg hg (Nat.le_refl _) (fun _ _ _ => rfl) hp
  have k1' : play s l = (0, (cs1, ps1)) := k1
  have k2' : play s (leanR l).1 = (0, (cs1, ps2)) := k2
  have h2 : playE s (leanR l).1 = 0 := by
    unfold playE
    rw [if_neg hc, k2']
  refine ⟨h2, ?_⟩
  unfold outS
  rw [if_pos h, if_pos h2, k1', k2']
  exact ⟨rfl, k3.symm⟩
attribute [local irreducible] box own sl old bptr eptr Qt Opr Run Cod Pst Drn
set_option maxRecDepth 100000 in
set_option maxHeartbeats 8000000 in
theorem equal_O (qa qb : Option Addr) (ca cb : Nat) (xs ys : List (Int × Int × ByteArray)) (hn : xs.length ≤ maxLen) (hm : ys.length ≤ maxLen) :
    Ct Try.prog 57 [.slice qa xs.length ca, .slice qb ys.length cb] [sl 3 (.slice qa xs.length ca) (xs.map fIIS), sl 3 (.slice qb ys.length cb) (ys.map fIIS)] fun v H' => v = .bool (decide (xs = ys)) ∧ H' = [] := by
  unfold maxLen at hn hm
  by_cases hl : xs.length = ys.length
  · (refine spec_enter Try.func57 Try.ntmps57 rfl rfl fun Fr => ?_; dsimp only [List.cons_append, List.nil_append, ini, Nat.reduceAdd])
    (repeat' (first | (first | (apply run_qg 1; (focus rfl); (focus exact wt); (focus rfl); (focus (exact qg1))) | (apply run_qg 2; (focus rfl); (focus exact wt); (focus rfl); (focus (exact qg2))) | (apply run_qg 3; (focus rfl); (focus exact wt); (focus rfl); (focus (exact qg3))) | (apply run_qg 4; (focus rfl); (focus exact wt); (focus rfl); (focus (exact qg4))) | (apply run_qg 5; (focus rfl); (focus exact wt); (focus rfl); (focus (exact qg5))) | (apply run_qg 6; (focus rfl); (focus exact wt); (focus rfl); (focus (exact qg6))) | refine cod_seq ?_ | refine cod_region ?_ | refine run_nil ?_ | refine pst_then ?_ | (apply cod_cond_t; (focus rfl)) | (apply cod_cond_f; (focus rfl)) | refine cod_block ?_ | refine cod_exit ?_ | refine cod_ret ?_ | refine cod_skip ?_ | refine pst_block_here ?_ | refine pst_block_out rfl ?_ | refine pst_block_ret ?_ | refine pst_then_exit ?_ | refine pst_then_ret ?_ | refine pst_block ?_ | (apply run_osg 8; (focus rfl); (focus exact wt); (focus rfl); (focus (exact opr_box_agg rfl rfl)); (rintro _ _ ⟨b, rfl, rfl⟩)) | (apply run_osg 8; (focus rfl); (focus exact wt); (focus rfl); (focus (exact opr_box_one rfl rfl rfl)); (rintro _ _ ⟨b, rfl, rfl⟩)) | (apply run_osg 8; (focus rfl); (focus exact wt); (focus rfl); (focus (exact opr_new rfl)); (rintro _ _ ⟨b, rfl, rfl⟩)) | (apply run_ong 9; (focus rfl); (focus exact wt); (focus (exact opr_store_box_agg rfl rfl rfl (by exact pka) rfl rfl rfl (by exact spla))); (rintro _ _ ⟨rfl, rfl⟩)) | (apply run_ong 9; (focus rfl); (focus exact wt); (focus (exact opr_store_box_one rfl rfl rfl rfl (by exact pka) rfl (by exact seta))); (rintro _ _ ⟨rfl, rfl⟩)) | (apply run_osg 10; (focus rfl); (focus exact wt); (focus rfl); (focus (exact opr_buildSlice rfl rfl rfl (by exact blda) rfl rfl (by decide) rfl)); (rintro _ _ ⟨q, rfl, rfl⟩)) | (apply run_offs; (focus rfl); (focus rfl); (focus rfl)) | (apply run_offn; (focus rfl); (focus rfl))) | ((first | (apply run_lss; (rotate_left 2); (focus rfl)) | (apply run_leq; (rotate_left 2); (focus rfl)) | (apply run_gtr; (rotate_left 2); (focus rfl)) | (apply run_geq; (rotate_left 2); (focus rfl)) | (apply run_eql; (rotate_left 2); (focus rfl)) | (apply run_neq; (rotate_left 2); (focus rfl)) | (apply run_seq; (rotate_left 2); (focus rfl)) | (apply run_sneq; (rotate_left 2); (focus rfl))); (focus rfl); (focus rfl); (rotate_right 2); (focus exact wt); (focus rfl); (all_goals (intro h; dsimp only [upd])))))
    (refine cod_loop_ro (σ := Nat) (fun k => k ≤ xs.length ∧ xs.take k = ys.take k) (fun k => [(13, .int .i64 (k : Int))]) (fun k => xs.length - k) (0) (by simp) (by exact fsa) (fun k ⟨hk, ht⟩ => ?_); dsimp only [List.cons_append, List.nil_append])
    rcases get_or xs k with ⟨x, hx, hlt⟩ | hge
    · obtain ⟨y, hy⟩ : ∃ y, ys[k]? = some y := ⟨_, List.getElem?_eq_getElem (by omega)⟩
      by_cases hxy : x = y
      · (repeat' (first | (first | (apply run_qg 1; (focus rfl); (focus exact wt); (focus rfl); (focus (exact qg1))) | (apply run_qg 2; (focus rfl); (focus exact wt); (focus rfl); (focus (exact qg2))) | (apply run_qg 3; (focus rfl); (focus exact wt); (focus rfl); (focus (exact qg3))) | (apply run_qg 4; (focus rfl); (focus exact wt); (focus rfl); (focus (exact qg4))) | (apply run_qg 5; (focus rfl); (focus exact wt); (focus rfl); (focus (exact qg5))) | (apply run_qg 6; (focus rfl); (focus exact wt); (focus rfl); (focus (exact qg6))) | refine cod_seq ?_ | refine cod_region ?_ | refine run_nil ?_ | refine pst_then ?_ | (apply cod_cond_t; (focus rfl)) | (apply cod_cond_f; (focus rfl)) | refine cod_block ?_ | refine cod_exit ?_ | refine cod_ret ?_ | refine cod_skip ?_ | refine pst_block_here ?_ | refine pst_block_out rfl ?_ | refine pst_block_ret ?_ | refine pst_then_exit ?_ | refine pst_then_ret ?_ | refine pst_block ?_ | (apply run_osg 8; (focus rfl); (focus exact wt); (focus rfl); (focus (exact opr_box_agg rfl rfl)); (rintro _ _ ⟨b, rfl, rfl⟩)) | (apply run_osg 8; (focus rfl); (focus exact wt); (focus rfl); (focus (exact opr_box_one rfl rfl rfl)); (rintro _ _ ⟨b, rfl, rfl⟩)) | (apply run_osg 8; (focus rfl); (focus exact wt); (focus rfl); (focus (exact opr_new rfl)); (rintro _ _ ⟨b, rfl, rfl⟩)) | (apply run_ong 9; (focus rfl); (focus exact wt); (focus (exact opr_store_box_agg rfl rfl rfl (by exact pka) rfl rfl rfl (by exact spla))); (rintro _ _ ⟨rfl, rfl⟩)) | (apply run_ong 9; (focus rfl); (focus exact wt); (focus (exact opr_store_box_one rfl rfl rfl rfl (by exact pka) rfl (by exact seta))); (rintro _ _ ⟨rfl, rfl⟩)) | (apply run_osg 10; (focus rfl); (focus exact wt); (focus rfl); (focus (exact opr_buildSlice rfl rfl rfl (by exact blda) rfl rfl (by decide) rfl)); (rintro _ _ ⟨q, rfl, rfl⟩)) | (apply run_offs; (focus rfl); (focus rfl); (focus rfl)) | (apply run_offn; (focus rfl); (focus rfl))) | ((first | (apply run_lss; (rotate_left 2); (focus rfl)) | (apply run_leq; (rotate_left 2); (focus rfl)) | (apply run_gtr; (rotate_left 2); (focus rfl)) | (apply run_geq; (rotate_left 2); (focus rfl)) | (apply run_eql; (rotate_left 2); (focus rfl)) | (apply run_neq; (rotate_left 2); (focus rfl)) | (apply run_seq; (rotate_left 2); (focus rfl)) | (apply run_sneq; (rotate_left 2); (focus rfl))); (focus rfl); (focus rfl); (rotate_right 2); (focus exact wt); (focus rfl); (all_goals (intro h; dsimp only [upd])))))
        refine cod_drawn_sel (Hq := [_, _]) [0, 1] [] rfl (by kernel_rfl) ?_
        (refine drnL_start [0, 1, 2, 3, 4, 5, 6, 7, 8] ?_; (repeat (first | (apply drnL_take; (focus rfl); (focus exact wt); (focus kernel_rfl); (focus exact hsq); (focus rfl); (focus exact qta)) | (apply drnL_off; (focus rfl); (focus rfl); (focus rfl); (focus kernel_rfl); (focus exact hsq); (focus rfl)))); refine drnL_end ?_)
        refine drn_done (by kernel_rfl) ?_
        (repeat' (first | (first | (apply run_qg 1; (focus rfl); (focus exact wt); (focus rfl); (focus (exact qg1))) | (apply run_qg 2; (focus rfl); (focus exact wt); (focus rfl); (focus (exact qg2))) | (apply run_qg 3; (focus rfl); (focus exact wt); (focus rfl); (focus (exact qg3))) | (apply run_qg 4; (focus rfl); (focus exact wt); (focus rfl); (focus (exact qg4))) | (apply run_qg 5; (focus rfl); (focus exact wt); (focus rfl); (focus (exact qg5))) | (apply run_qg 6; (focus rfl); (focus exact wt); (focus rfl); (focus (exact qg6))) | refine cod_seq ?_ | refine cod_region ?_ | refine run_nil ?_ | refine pst_then ?_ | (apply cod_cond_t; (focus rfl)) | (apply cod_cond_f; (focus rfl)) | refine cod_block ?_ | refine cod_exit ?_ | refine cod_ret ?_ | refine cod_skip ?_ | refine pst_block_here ?_ | refine pst_block_out rfl ?_ | refine pst_block_ret ?_ | refine pst_then_exit ?_ | refine pst_then_ret ?_ | refine pst_block ?_ | (apply run_osg 8; (focus rfl); (focus exact wt); (focus rfl); (focus (exact opr_box_agg rfl rfl)); (rintro _ _ ⟨b, rfl, rfl⟩)) | (apply run_osg 8; (focus rfl); (focus exact wt); (focus rfl); (focus (exact opr_box_one rfl rfl rfl)); (rintro _ _ ⟨b, rfl, rfl⟩)) | (apply run_osg 8; (focus rfl); (focus exact wt); (focus rfl); (focus (exact opr_new rfl)); (rintro _ _ ⟨b, rfl, rfl⟩)) | (apply run_ong 9; (focus rfl); (focus exact wt); (focus (exact opr_store_box_agg rfl rfl rfl (by exact pka) rfl rfl rfl (by exact spla))); (rintro _ _ ⟨rfl, rfl⟩)) | (apply run_ong 9; (focus rfl); (focus exact wt); (focus (exact opr_store_box_one rfl rfl rfl rfl (by exact pka) rfl (by exact seta))); (rintro _ _ ⟨rfl, rfl⟩)) | (apply run_osg 10; (focus rfl); (focus exact wt); (focus rfl); (focus (exact opr_buildSlice rfl rfl rfl (by exact blda) rfl rfl (by decide) rfl)); (rintro _ _ ⟨q, rfl, rfl⟩)) | (apply run_offs; (focus rfl); (focus rfl); (focus rfl)) | (apply run_offn; (focus rfl); (focus rfl))) | ((first | (apply run_lss; (rotate_left 2); (focus rfl)) | (apply run_leq; (rotate_left 2); (focus rfl)) | (apply run_gtr; (rotate_left 2); (focus rfl)) | (apply run_geq; (rotate_left 2); (focus rfl)) | (apply run_eql; (rotate_left 2); (focus rfl)) | (apply run_neq; (rotate_left 2); (focus rfl)) | (apply run_seq; (rotate_left 2); (focus rfl)) | (apply run_sneq; (rotate_left 2); (focus rfl))); (focus rfl); (focus rfl); (rotate_right 2); (focus exact wt); (focus rfl); (all_goals (intro h; dsimp only [upd])))))
        refine pst_again (k + 1) ?_ (FSub.of (by (try dsimp only); exact fsa)) (by (try dsimp only); exact hsa) ?_
        · exact ⟨by omega, by rw [take_one hx, take_one hy, ht, hxy]⟩
        · show xs.length - (k + 1) < xs.length - k
          omega
      · (repeat' (first | (first | (apply run_qg 1; (focus rfl); (focus exact wt); (focus rfl); (focus (exact qg1))) | (apply run_qg 2; (focus rfl); (focus exact wt); (focus rfl); (focus (exact qg2))) | (apply run_qg 3; (focus rfl); (focus exact wt); (focus rfl); (focus (exact qg3))) | (apply run_qg 4; (focus rfl); (focus exact wt); (focus rfl); (focus (exact qg4))) | (apply run_qg 5; (focus rfl); (focus exact wt); (focus rfl); (focus (exact qg5))) | (apply run_qg 6; (focus rfl); (focus exact wt); (focus rfl); (focus (exact qg6))) | refine cod_seq ?_ | refine cod_region ?_ | refine run_nil ?_ | refine pst_then ?_ | (apply cod_cond_t; (focus rfl)) | (apply cod_cond_f; (focus rfl)) | refine cod_block ?_ | refine cod_exit ?_ | refine cod_ret ?_ | refine cod_skip ?_ | refine pst_block_here ?_ | refine pst_block_out rfl ?_ | refine pst_block_ret ?_ | refine pst_then_exit ?_ | refine pst_then_ret ?_ | refine pst_block ?_ | (apply run_osg 8; (focus rfl); (focus exact wt); (focus rfl); (focus (exact opr_box_agg rfl rfl)); (rintro _ _ ⟨b, rfl, rfl⟩)) | (apply run_osg 8; (focus rfl); (focus exact wt); (focus rfl); (focus (exact opr_box_one rfl rfl rfl)); (rintro _ _ ⟨b, rfl, rfl⟩)) | (apply run_osg 8; (focus rfl); (focus exact wt); (focus rfl); (focus (exact opr_new rfl)); (rintro _ _ ⟨b, rfl, rfl⟩)) | (apply run_ong 9; (focus rfl); (focus exact wt); (focus (exact opr_store_box_agg rfl rfl rfl (by exact pka) rfl rfl rfl (by exact spla))); (rintro _ _ ⟨rfl, rfl⟩)) | (apply run_ong 9; (focus rfl); (focus exact wt); (focus (exact opr_store_box_one rfl rfl rfl rfl (by exact pka) rfl (by exact seta))); (rintro _ _ ⟨rfl, rfl⟩)) | (apply run_osg 10; (focus rfl); (focus exact wt); (focus rfl); (focus (exact opr_buildSlice rfl rfl rfl (by exact blda) rfl rfl (by decide) rfl)); (rintro _ _ ⟨q, rfl, rfl⟩)) | (apply run_offs; (focus rfl); (focus rfl); (focus rfl)) | (apply run_offn; (focus rfl); (focus rfl))) | ((first | (apply run_lss; (rotate_left 2); (focus rfl)) | (apply run_leq; (rotate_left 2); (focus rfl)) | (apply run_gtr; (rotate_left 2); (focus rfl)) | (apply run_geq; (rotate_left 2); (focus rfl)) | (apply run_eql; (rotate_left 2); (focus rfl)) | (apply run_neq; (rotate_left 2); (focus rfl)) | (apply run_seq; (rotate_left 2); (focus rfl)) | (apply run_sneq; (rotate_left 2); (focus rfl))); (focus rfl); (focus rfl); (rotate_right 2); (focus exact wt); (focus rfl); (all_goals (intro h; dsimp only [upd])))))
        refine cod_drawn_sel (Hq := [_, _]) [0, 1] [] rfl (by kernel_rfl) ?_
        (refine drnL_start [0, 1, 2, 3, 4, 5, 6, 7, 8] ?_; (repeat (first | (apply drnL_take; (focus rfl); (focus exact wt); (focus kernel_rfl); (focus exact hsq); (focus rfl); (focus exact qta)) | (apply drnL_off; (focus rfl); (focus rfl); (focus rfl); (focus kernel_rfl); (focus exact hsq); (focus rfl)))); refine drnL_end ?_)
        refine drn_done (by kernel_rfl) ?_
        (repeat' (first | (first | (apply run_qg 1; (focus rfl); (focus exact wt); (focus rfl); (focus (exact qg1))) | (apply run_qg 2; (focus rfl); (focus exact wt); (focus rfl); (focus (exact qg2))) | (apply run_qg 3; (focus rfl); (focus exact wt); (focus rfl); (focus (exact qg3))) | (apply run_qg 4; (focus rfl); (focus exact wt); (focus rfl); (focus (exact qg4))) | (apply run_qg 5; (focus rfl); (focus exact wt); (focus rfl); (focus (exact qg5))) | (apply run_qg 6; (focus rfl); (focus exact wt); (focus rfl); (focus (exact qg6))) | refine cod_seq ?_ | refine cod_region ?_ | refine run_nil ?_ | refine pst_then ?_ | (apply cod_cond_t; (focus rfl)) | (apply cod_cond_f; (focus rfl)) | refine cod_block ?_ | refine cod_exit ?_ | refine cod_ret ?_ | refine cod_skip ?_ | refine pst_block_here ?_ | refine pst_block_out rfl ?_ | refine pst_block_ret ?_ | refine pst_then_exit ?_ | refine pst_then_ret ?_ | refine pst_block ?_ | (apply run_osg 8; (focus rfl); (focus exact wt); (focus rfl); (focus (exact opr_box_agg rfl rfl)); (rintro _ _ ⟨b, rfl, rfl⟩)) | (apply run_osg 8; (focus rfl); (focus exact wt); (focus rfl); (focus (exact opr_box_one rfl rfl rfl)); (rintro _ _ ⟨b, rfl, rfl⟩)) | (apply run_osg 8; (focus rfl); (focus exact wt); (focus rfl); (focus (exact opr_new rfl)); (rintro _ _ ⟨b, rfl, rfl⟩)) | (apply run_ong 9; (focus rfl); (focus exact wt); (focus (exact opr_store_box_agg rfl rfl rfl (by exact pka) rfl rfl rfl (by exact spla))); (rintro _ _ ⟨rfl, rfl⟩)) | (apply run_ong 9; (focus rfl); (focus exact wt); (focus (exact opr_store_box_one rfl rfl rfl rfl (by exact pka) rfl (by exact seta))); (rintro _ _ ⟨rfl, rfl⟩)) | (apply run_osg 10; (focus rfl); (focus exact wt); (focus rfl); (focus (exact opr_buildSlice rfl rfl rfl (by exact blda) rfl rfl (by decide) rfl)); (rintro _ _ ⟨q, rfl, rfl⟩)) | (apply run_offs; (focus rfl); (focus rfl); (focus rfl)) | (apply run_offn; (focus rfl); (focus rfl))) | ((first | (apply run_lss; (rotate_left 2); (focus rfl)) | (apply run_leq; (rotate_left 2); (focus rfl)) | (apply run_gtr; (rotate_left 2); (focus rfl)) | (apply run_geq; (rotate_left 2); (focus rfl)) | (apply run_eql; (rotate_left 2); (focus rfl)) | (apply run_neq; (rotate_left 2); (focus rfl)) | (apply run_seq; (rotate_left 2); (focus rfl)) | (apply run_sneq; (rotate_left 2); (focus rfl))); (focus rfl); (focus rfl); (rotate_right 2); (focus exact wt); (focus rfl); (all_goals (intro h; dsimp only [upd])))))
        have hd : decide (xs = ys) = false := by
          rw [decide_eq_false_iff_not]
          intro e
          rw [e, hy] at hx
          exact hxy (Option.some.inj hx).symm
        exact pst_fin rfl (by exact resa) _ (⟨by rw [hd], rfl⟩) (by exact hsa)
    · (repeat' (first | (first | (apply run_qg 1; (focus rfl); (focus exact wt); (focus rfl); (focus (exact qg1))) | (apply run_qg 2; (focus rfl); (focus exact wt); (focus rfl); (focus (exact qg2))) | (apply run_qg 3; (focus rfl); (focus exact wt); (focus rfl); (focus (exact qg3))) | (apply run_qg 4; (focus rfl); (focus exact wt); (focus rfl); (focus (exact qg4))) | (apply run_qg 5; (focus rfl); (focus exact wt); (focus rfl); (focus (exact qg5))) | (apply run_qg 6; (focus rfl); (focus exact wt); (focus rfl); (focus (exact qg6))) | refine cod_seq ?_ | refine cod_region ?_ | refine run_nil ?_ | refine pst_then ?_ | (apply cod_cond_t; (focus rfl)) | (apply cod_cond_f; (focus rfl)) | refine cod_block ?_ | refine cod_exit ?_ | refine cod_ret ?_ | refine cod_skip ?_ | refine pst_block_here ?_ | refine pst_block_out rfl ?_ | refine pst_block_ret ?_ | refine pst_then_exit ?_ | refine pst_then_ret ?_ | refine pst_block ?_ | (apply run_osg 8; (focus rfl); (focus exact wt); (focus rfl); (focus (exact opr_box_agg rfl rfl)); (rintro _ _ ⟨b, rfl, rfl⟩)) | (apply run_osg 8; (focus rfl); (focus exact wt); (focus rfl); (focus (exact opr_box_one rfl rfl rfl)); (rintro _ _ ⟨b, rfl, rfl⟩)) | (apply run_osg 8; (focus rfl); (focus exact wt); (focus rfl); (focus (exact opr_new rfl)); (rintro _ _ ⟨b, rfl, rfl⟩)) | (apply run_ong 9; (focus rfl); (focus exact wt); (focus (exact opr_store_box_agg rfl rfl rfl (by exact pka) rfl rfl rfl (by exact spla))); (rintro _ _ ⟨rfl, rfl⟩)) | (apply run_ong 9; (focus rfl); (focus exact wt); (focus (exact opr_store_box_one rfl rfl rfl rfl (by exact pka) rfl (by exact seta))); (rintro _ _ ⟨rfl, rfl⟩)) | (apply run_osg 10; (focus rfl); (focus exact wt); (focus rfl); (focus (exact opr_buildSlice rfl rfl rfl (by exact blda) rfl rfl (by decide) rfl)); (rintro _ _ ⟨q, rfl, rfl⟩)) | (apply run_offs; (focus rfl); (focus rfl); (focus rfl)) | (apply run_offn; (focus rfl); (focus rfl))) | ((first | (apply run_lss; (rotate_left 2); (focus rfl)) | (apply run_leq; (rotate_left 2); (focus rfl)) | (apply run_gtr; (rotate_left 2); (focus rfl)) | (apply run_geq; (rotate_left 2); (focus rfl)) | (apply run_eql; (rotate_left 2); (focus rfl)) | (apply run_neq; (rotate_left 2); (focus rfl)) | (apply run_seq; (rotate_left 2); (focus rfl)) | (apply run_sneq; (rotate_left 2); (focus rfl))); (focus rfl); (focus rfl); (rotate_right 2); (focus exact wt); (focus rfl); (all_goals (intro h; dsimp only [upd])))))
      have hd : decide (xs = ys) = true := by
        rw [decide_eq_true_iff]
        rwa [List.take_of_length_le hge, List.take_of_length_le (by omega)] at ht
      exact pst_fin rfl (by exact resa) _ (⟨by rw [hd], rfl⟩) (by exact hsa)
  · have hd : decide (xs = ys) = false := by
      rw [decide_eq_false_iff_not]
      intro e
      rw [e] at hl
      exact hl rfl
    (refine spec_enter Try.func57 Try.ntmps57 rfl rfl fun Fr => ?_; dsimp only [List.cons_append, List.nil_append, ini, Nat.reduceAdd])
    (repeat' (first | (first | (apply run_qg 1; (focus rfl); (focus exact wt); (focus rfl); (focus (exact qg1))) | (apply run_qg 2; (focus rfl); (focus exact wt); (focus rfl); (focus (exact qg2))) | (apply run_qg 3; (focus rfl); (focus exact wt); (focus rfl); (focus (exact qg3))) | (apply run_qg 4; (focus rfl); (focus exact wt); (focus rfl); (focus (exact qg4))) | (apply run_qg 5; (focus rfl); (focus exact wt); (focus rfl); (focus (exact qg5))) | (apply run_qg 6; (focus rfl); (focus exact wt); (focus rfl); (focus (exact qg6))) | refine cod_seq ?_ | refine cod_region ?_ | refine run_nil ?_ | refine pst_then ?_ | (apply cod_cond_t; (focus rfl)) | (apply cod_cond_f; (focus rfl)) | refine cod_block ?_ | refine cod_exit ?_ | refine cod_ret ?_ | refine cod_skip ?_ | refine pst_block_here ?_ | refine pst_block_out rfl ?_ | refine pst_block_ret ?_ | refine pst_then_exit ?_ | refine pst_then_ret ?_ | refine pst_block ?_ | (apply run_osg 8; (focus rfl); (focus exact wt); (focus rfl); (focus (exact opr_box_agg rfl rfl)); (rintro _ _ ⟨b, rfl, rfl⟩)) | (apply run_osg 8; (focus rfl); (focus exact wt); (focus rfl); (focus (exact opr_box_one rfl rfl rfl)); (rintro _ _ ⟨b, rfl, rfl⟩)) | (apply run_osg 8; (focus rfl); (focus exact wt); (focus rfl); (focus (exact opr_new rfl)); (rintro _ _ ⟨b, rfl, rfl⟩)) | (apply run_ong 9; (focus rfl); (focus exact wt); (focus (exact opr_store_box_agg rfl rfl rfl (by exact pka) rfl rfl rfl (by exact spla))); (rintro _ _ ⟨rfl, rfl⟩)) | (apply run_ong 9; (focus rfl); (focus exact wt); (focus (exact opr_store_box_one rfl rfl rfl rfl (by exact pka) rfl (by exact seta))); (rintro _ _ ⟨rfl, rfl⟩)) | (apply run_osg 10; (focus rfl); (focus exact wt); (focus rfl); (focus (exact opr_buildSlice rfl rfl rfl (by exact blda) rfl rfl (by decide) rfl)); (rintro _ _ ⟨q, rfl, rfl⟩)) | (apply run_offs; (focus rfl); (focus rfl); (focus rfl)) | (apply run_offn; (focus rfl); (focus rfl))) | ((first | (apply run_lss; (rotate_left 2); (focus rfl)) | (apply run_leq; (rotate_left 2); (focus rfl)) | (apply run_gtr; (rotate_left 2); (focus rfl)) | (apply run_geq; (rotate_left 2); (focus rfl)) | (apply run_eql; (rotate_left 2); (focus rfl)) | (apply run_neq; (rotate_left 2); (focus rfl)) | (apply run_seq; (rotate_left 2); (focus rfl)) | (apply run_sneq; (rotate_left 2); (focus rfl))); (focus rfl); (focus rfl); (rotate_right 2); (focus exact wt); (focus rfl); (all_goals (intro h; dsimp only [upd])))))
    exact pst_fin rfl (by exact resa) _ (⟨by rw [hd], rfl⟩) (by exact hsa)

end Go.Proofs.Ytbgmfkhfbjgekaa.ops
