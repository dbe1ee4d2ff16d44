/-
  Several texts in one: DiskNW, DocCell, DocLog, FrontH, WalkScanFront.
-/
import Derived.Test.YtcaefeooneomnaaDiskNow
import Derived.Test.YtcaefeooneomnaaSlOwn
import Derived.Test.YtcaefeooneomnaaMgBlob
import Derived.Test.YtcaefeooneomnaaScan
import Derived.Test.YtcaefeooneomnaaMgRun
import Derived.Test.YtcaefeooneomnaaWithin
import Derived.Test.YtcaefeooneomnaaOpen3
/-
  disk: Write, landed, Sync: the walks; what is read afterwards.
-/
namespace Go.Proofs.Ytcaefeooneomnaa.disk
open Go.RowKit kit sl
set_option linter.unusedVariables false
attribute [local irreducible] box own sl old bptr eptr Qt Opr Run Cod Pst Drn
def noDisk : Value := .agg #[.slice none 0 0, .slice none 0 0]
/-- what a function hands back that makes a disk, and the memory of it -/
def NewDisk (cs : List ByteArray) (ps : List (Int × ByteArray)) (v : Value) (H' : List Ent) : Prop :=
  ∃ qa ca qw cw, v = .tuple #[.agg #[.slice qa cs.length ca, .slice qw ps.length cw], .int .i64 0] ∧ H' = [own (.slice qa cs.length ca) 9 1 cs.length (flat fS cs), own (.slice qw ps.length cw) 105 2 ps.length (flat fP ps)]
def DiskOr (e : Int) (cs : List ByteArray) (ps : List (Int × ByteArray)) (v : Value) (H' : List Ent) : Prop :=
  (e ≠ 0 ∧ v = .tuple #[noDisk, .int .i64 e] ∧ H' = []) ∨ (e = 0 ∧ NewDisk cs ps v H')
/-- disk.Write: what goes wrong -/
def writeE (cs : List ByteArray) (ps : List (Int × ByteArray)) (at' : Int) (text : ByteArray) : Int :=
  if checkD cs ps ≠ 0 then checkD cs ps else if putErr cs.length at' text ≠ 0 then putErr cs.length at' text else if ps.length = 400 then 9 else 0
set_option maxRecDepth 100000 in
set_option maxHeartbeats 8000000 in
theorem write_any (a w : Option Addr) (ca cw : Nat) (cs : List ByteArray) (ps : List (Int × ByteArray)) (at' : Int) (text : ByteArray) (hc : cs.length ≤ maxLen) (hp : ps.length ≤ maxLen) :
    Ct Try.prog 26 [.agg #[.slice a cs.length ca, .slice w ps.length cw], .int .i64 at', .string text] [sl 1 (.slice a cs.length ca) (cs.map fS), sl 2 (.slice w ps.length cw) (ps.map fP)] (DiskOr (writeE cs ps at' text) cs (ps ++ [(at', text)])) := by
  have CK := check_any a w ca cw cs ps hc hp
  by_cases h0 : checkD cs ps = 0
  · have hg := good_of h0
    have hn := hg.n1
    have hl := hg.wait
    rw [h0] at CK
    by_cases h1 : putErr cs.length at' text = 0
    · have PT := put_any cs.length at' text
      rw [h1] at PT
      have LK := like_any a w ca cw cs ps (by omega) (by omega)
      (refine spec_enter Try.func26 Try.ntmps26 rfl rfl fun Fr => ?_; dsimp only [List.cons_append, List.nil_append, ini, Nat.reduceAdd])
      (repeat' (first | (first | (apply run_qg 1; (focus rfl); (focus exact wt); (focus rfl); (focus (exact qg1))) | (apply run_qg 2; (focus rfl); (focus exact wt); (focus rfl); (focus (exact qg2))) | (apply run_qg 3; (focus rfl); (focus exact wt); (focus rfl); (focus (exact qg3))) | (apply run_qg 4; (focus rfl); (focus exact wt); (focus rfl); (focus (exact qg4))) | (apply run_qg 5; (focus rfl); (focus exact wt); (focus rfl); (focus (exact qg5))) | (apply run_qg 6; (focus rfl); (focus exact wt); (focus rfl); (focus (exact qg6))) | refine cod_seq ?_ | refine cod_region ?_ | refine run_nil ?_ | refine pst_then ?_ | (apply cod_cond_t; (focus rfl)) | (apply cod_cond_f; (focus rfl)) | refine cod_block ?_ | refine cod_exit ?_ | refine cod_ret ?_ | refine cod_skip ?_ | refine pst_block_here ?_ | refine pst_block_out rfl ?_ | refine pst_block_ret ?_ | refine pst_then_exit ?_ | refine pst_then_ret ?_ | refine pst_block ?_ | (apply run_osg 8; (focus rfl); (focus exact wt); (focus rfl); (focus (exact opr_box_agg rfl rfl)); (rintro _ _ ⟨b, rfl, rfl⟩)) | (apply run_osg 8; (focus rfl); (focus exact wt); (focus rfl); (focus (exact opr_box_one rfl rfl rfl)); (rintro _ _ ⟨b, rfl, rfl⟩)) | (apply run_osg 8; (focus rfl); (focus exact wt); (focus rfl); (focus (exact opr_new rfl)); (rintro _ _ ⟨b, rfl, rfl⟩)) | (apply run_ong 9; (focus rfl); (focus exact wt); (focus (exact opr_store_box_agg rfl rfl rfl (by exact pka) rfl rfl rfl (by exact spla))); (rintro _ _ ⟨rfl, rfl⟩)) | (apply run_ong 9; (focus rfl); (focus exact wt); (focus (exact opr_store_box_one rfl rfl rfl rfl (by exact pka) rfl (by exact seta))); (rintro _ _ ⟨rfl, rfl⟩)) | (apply run_osg 10; (focus rfl); (focus exact wt); (focus rfl); (focus (exact opr_buildSlice rfl rfl rfl (by exact blda) rfl rfl (by decide) rfl)); (rintro _ _ ⟨q, rfl, rfl⟩)) | (apply run_offs; (focus rfl); (focus rfl); (focus rfl)) | (apply run_offn; (focus rfl); (focus rfl))) | (apply run_osg 7; (focus rfl); (focus exact wt); (focus rfl); (focus (first | exact opr_call_ls (by rfl) (CK ..) (by rfl) (by exact lpa) | exact opr_call_s (by rfl) (CK ..) (by rfl) (by exact pca))); (rintro _ _ ⟨rfl, rfl⟩)) | (apply run_osg 7; (focus rfl); (focus exact wt); (focus rfl); (focus (first | exact opr_call_ls (by rfl) (PT ..) (by rfl) (by exact lpa) | exact opr_call_s (by rfl) (PT ..) (by rfl) (by exact pca))); (rintro _ _ ⟨rfl, rfl⟩)) | ((first | (apply run_lss; (rotate_left 2); (focus rfl)) | (apply run_leq; (rotate_left 2); (focus rfl)) | (apply run_gtr; (rotate_left 2); (focus rfl)) | (apply run_geq; (rotate_left 2); (focus rfl)) | (apply run_eql; (rotate_left 2); (focus rfl)) | (apply run_neq; (rotate_left 2); (focus rfl)) | (apply run_seq; (rotate_left 2); (focus rfl)) | (apply run_sneq; (rotate_left 2); (focus rfl))); (focus rfl); (focus rfl); (rotate_right 2); (focus exact wt); (focus rfl); (all_goals (intro h; dsimp only [upd])))))
      · exact pst_fin rfl (by exact resa) _ (.inl ⟨by unfold writeE; rw [if_neg (by simp [h0]), if_neg (by simp [h1]), if_pos (by omega)]; simp, by unfold writeE; rw [if_neg (by simp [h0]), if_neg (by simp [h1]), if_pos (by omega)]; rfl, rfl⟩) (by exact hsa)
      refine run_os wt rfl (opr_call rfl (LK) rfl (by exact pca)) ?_
      rintro _ _ ⟨_, ⟨qa, ca', qw, cw', rfl, rfl⟩, rfl⟩
      dsimp only [List.cons_append, List.nil_append]
      (repeat' (first | (first | (apply run_qg 1; (focus rfl); (focus exact wt); (focus rfl); (focus (exact qg1))) | (apply run_qg 2; (focus rfl); (focus exact wt); (focus rfl); (focus (exact qg2))) | (apply run_qg 3; (focus rfl); (focus exact wt); (focus rfl); (focus (exact qg3))) | (apply run_qg 4; (focus rfl); (focus exact wt); (focus rfl); (focus (exact qg4))) | (apply run_qg 5; (focus rfl); (focus exact wt); (focus rfl); (focus (exact qg5))) | (apply run_qg 6; (focus rfl); (focus exact wt); (focus rfl); (focus (exact qg6))) | refine cod_seq ?_ | refine cod_region ?_ | refine run_nil ?_ | refine pst_then ?_ | (apply cod_cond_t; (focus rfl)) | (apply cod_cond_f; (focus rfl)) | refine cod_block ?_ | refine cod_exit ?_ | refine cod_ret ?_ | refine cod_skip ?_ | refine pst_block_here ?_ | refine pst_block_out rfl ?_ | refine pst_block_ret ?_ | refine pst_then_exit ?_ | refine pst_then_ret ?_ | refine pst_block ?_ | (apply run_osg 8; (focus rfl); (focus exact wt); (focus rfl); (focus (exact opr_box_agg rfl rfl)); (rintro _ _ ⟨b, rfl, rfl⟩)) | (apply run_osg 8; (focus rfl); (focus exact wt); (focus rfl); (focus (exact opr_box_one rfl rfl rfl)); (rintro _ _ ⟨b, rfl, rfl⟩)) | (apply run_osg 8; (focus rfl); (focus exact wt); (focus rfl); (focus (exact opr_new rfl)); (rintro _ _ ⟨b, rfl, rfl⟩)) | (apply run_ong 9; (focus rfl); (focus exact wt); (focus (exact opr_store_box_agg rfl rfl rfl (by exact pka) rfl rfl rfl (by exact spla))); (rintro _ _ ⟨rfl, rfl⟩)) | (apply run_ong 9; (focus rfl); (focus exact wt); (focus (exact opr_store_box_one rfl rfl rfl rfl (by exact pka) rfl (by exact seta))); (rintro _ _ ⟨rfl, rfl⟩)) | (apply run_osg 10; (focus rfl); (focus exact wt); (focus rfl); (focus (exact opr_buildSlice rfl rfl rfl (by exact blda) rfl rfl (by decide) rfl)); (rintro _ _ ⟨q, rfl, rfl⟩)) | (apply run_offs; (focus rfl); (focus rfl); (focus rfl)) | (apply run_offn; (focus rfl); (focus rfl))) | ((first | (apply run_lss; (rotate_left 2); (focus rfl)) | (apply run_leq; (rotate_left 2); (focus rfl)) | (apply run_gtr; (rotate_left 2); (focus rfl)) | (apply run_geq; (rotate_left 2); (focus rfl)) | (apply run_eql; (rotate_left 2); (focus rfl)) | (apply run_neq; (rotate_left 2); (focus rfl)) | (apply run_seq; (rotate_left 2); (focus rfl)) | (apply run_sneq; (rotate_left 2); (focus rfl))); (focus rfl); (focus rfl); (rotate_right 2); (focus exact wt); (focus rfl); (all_goals (intro h; dsimp only [upd])))))
      (refine run_os wt (by rfl) (by first | exact opr_append_lit0 (fP) [(at', text)] rfl rfl rfl (by exact pka) (by rfl) (by rfl) (by intro _; rfl) (by (first | exact one_fS | exact one_fI | exact one_fB | exact one_fP | exact one_fIIS | exact one_fIIIS | exact one_fII | exact one_fSI | exact one_fIIU | exact one_fY | exact one_fBl | exact one_fT | exact one_fE | assumption)) rfl (by simp only [List.length_cons, List.length_nil]; omega) (by (unfold maxLen); simp only [List.length_cons, List.length_nil]; omega) | exact opr_append_lit (fP) [(at', text)] rfl rfl rfl (by exact pka) (by exact pka) (by rfl) (by rfl) (by first | rfl | omega) (by intro _; rfl) (by (first | exact one_fS | exact one_fI | exact one_fB | exact one_fP | exact one_fIIS | exact one_fIIIS | exact one_fII | exact one_fSI | exact one_fIIU | exact one_fY | exact one_fBl | exact one_fT | exact one_fE | assumption)) rfl (by simp only [List.length_cons, List.length_nil]; omega) (by (unfold maxLen); simp only [List.length_cons, List.length_nil]; omega)) ?_; rintro _ _ ⟨q2, c2, rfl, rfl⟩)
      (repeat' (first | (first | (apply run_qg 1; (focus rfl); (focus exact wt); (focus rfl); (focus (exact qg1))) | (apply run_qg 2; (focus rfl); (focus exact wt); (focus rfl); (focus (exact qg2))) | (apply run_qg 3; (focus rfl); (focus exact wt); (focus rfl); (focus (exact qg3))) | (apply run_qg 4; (focus rfl); (focus exact wt); (focus rfl); (focus (exact qg4))) | (apply run_qg 5; (focus rfl); (focus exact wt); (focus rfl); (focus (exact qg5))) | (apply run_qg 6; (focus rfl); (focus exact wt); (focus rfl); (focus (exact qg6))) | refine cod_seq ?_ | refine cod_region ?_ | refine run_nil ?_ | refine pst_then ?_ | (apply cod_cond_t; (focus rfl)) | (apply cod_cond_f; (focus rfl)) | refine cod_block ?_ | refine cod_exit ?_ | refine cod_ret ?_ | refine cod_skip ?_ | refine pst_block_here ?_ | refine pst_block_out rfl ?_ | refine pst_block_ret ?_ | refine pst_then_exit ?_ | refine pst_then_ret ?_ | refine pst_block ?_ | (apply run_osg 8; (focus rfl); (focus exact wt); (focus rfl); (focus (exact opr_box_agg rfl rfl)); (rintro _ _ ⟨b, rfl, rfl⟩)) | (apply run_osg 8; (focus rfl); (focus exact wt); (focus rfl); (focus (exact opr_box_one rfl rfl rfl)); (rintro _ _ ⟨b, rfl, rfl⟩)) | (apply run_osg 8; (focus rfl); (focus exact wt); (focus rfl); (focus (exact opr_new rfl)); (rintro _ _ ⟨b, rfl, rfl⟩)) | (apply run_ong 9; (focus rfl); (focus exact wt); (focus (exact opr_store_box_agg rfl rfl rfl (by exact pka) rfl rfl rfl (by exact spla))); (rintro _ _ ⟨rfl, rfl⟩)) | (apply run_ong 9; (focus rfl); (focus exact wt); (focus (exact opr_store_box_one rfl rfl rfl rfl (by exact pka) rfl (by exact seta))); (rintro _ _ ⟨rfl, rfl⟩)) | (apply run_osg 10; (focus rfl); (focus exact wt); (focus rfl); (focus (exact opr_buildSlice rfl rfl rfl (by exact blda) rfl rfl (by decide) rfl)); (rintro _ _ ⟨q, rfl, rfl⟩)) | (apply run_offs; (focus rfl); (focus rfl); (focus rfl)) | (apply run_offn; (focus rfl); (focus rfl))) | ((first | (apply run_lss; (rotate_left 2); (focus rfl)) | (apply run_leq; (rotate_left 2); (focus rfl)) | (apply run_gtr; (rotate_left 2); (focus rfl)) | (apply run_geq; (rotate_left 2); (focus rfl)) | (apply run_eql; (rotate_left 2); (focus rfl)) | (apply run_neq; (rotate_left 2); (focus rfl)) | (apply run_seq; (rotate_left 2); (focus rfl)) | (apply run_sneq; (rotate_left 2); (focus rfl))); (focus rfl); (focus rfl); (rotate_right 2); (focus exact wt); (focus rfl); (all_goals (intro h; dsimp only [upd])))))
      exact pst_fin rfl (by exact resa) _ (.inr ⟨by unfold writeE; rw [if_neg (by simp [h0]), if_neg (by simp [h1]), if_neg (by omega)], _, _, _, _, rfl, rfl⟩) (by exact hsa)
    · (refine spec_enter Try.func26 Try.ntmps26 rfl rfl fun Fr => ?_; dsimp only [List.cons_append, List.nil_append, ini, Nat.reduceAdd])
      (repeat' (first | (first | (apply run_qg 1; (focus rfl); (focus exact wt); (focus rfl); (focus (exact qg1))) | (apply run_qg 2; (focus rfl); (focus exact wt); (focus rfl); (focus (exact qg2))) | (apply run_qg 3; (focus rfl); (focus exact wt); (focus rfl); (focus (exact qg3))) | (apply run_qg 4; (focus rfl); (focus exact wt); (focus rfl); (focus (exact qg4))) | (apply run_qg 5; (focus rfl); (focus exact wt); (focus rfl); (focus (exact qg5))) | (apply run_qg 6; (focus rfl); (focus exact wt); (focus rfl); (focus (exact qg6))) | refine cod_seq ?_ | refine cod_region ?_ | refine run_nil ?_ | refine pst_then ?_ | (apply cod_cond_t; (focus rfl)) | (apply cod_cond_f; (focus rfl)) | refine cod_block ?_ | refine cod_exit ?_ | refine cod_ret ?_ | refine cod_skip ?_ | refine pst_block_here ?_ | refine pst_block_out rfl ?_ | refine pst_block_ret ?_ | refine pst_then_exit ?_ | refine pst_then_ret ?_ | refine pst_block ?_ | (apply run_osg 8; (focus rfl); (focus exact wt); (focus rfl); (focus (exact opr_box_agg rfl rfl)); (rintro _ _ ⟨b, rfl, rfl⟩)) | (apply run_osg 8; (focus rfl); (focus exact wt); (focus rfl); (focus (exact opr_box_one rfl rfl rfl)); (rintro _ _ ⟨b, rfl, rfl⟩)) | (apply run_osg 8; (focus rfl); (focus exact wt); (focus rfl); (focus (exact opr_new rfl)); (rintro _ _ ⟨b, rfl, rfl⟩)) | (apply run_ong 9; (focus rfl); (focus exact wt); (focus (exact opr_store_box_agg rfl rfl rfl (by exact pka) rfl rfl rfl (by exact spla))); (rintro _ _ ⟨rfl, rfl⟩)) | (apply run_ong 9; (focus rfl); (focus exact wt); (focus (exact opr_store_box_one rfl rfl rfl rfl (by exact pka) rfl (by exact seta))); (rintro _ _ ⟨rfl, rfl⟩)) | (apply run_osg 10; (focus rfl); (focus exact wt); (focus rfl); (focus (exact opr_buildSlice rfl rfl rfl (by exact blda) rfl rfl (by decide) rfl)); (rintro _ _ ⟨q, rfl, rfl⟩)) | (apply run_offs; (focus rfl); (focus rfl); (focus rfl)) | (apply run_offn; (focus rfl); (focus rfl))) | (apply run_osg 7; (focus rfl); (focus exact wt); (focus rfl); (focus (first | exact opr_call_ls (by rfl) (CK ..) (by rfl) (by exact lpa) | exact opr_call_s (by rfl) (CK ..) (by rfl) (by exact pca))); (rintro _ _ ⟨rfl, rfl⟩)) | (apply run_osg 7; (focus rfl); (focus exact wt); (focus rfl); (focus (first | exact opr_call_ls (by rfl) (put_any ..) (by rfl) (by exact lpa) | exact opr_call_s (by rfl) (put_any ..) (by rfl) (by exact pca))); (rintro _ _ ⟨rfl, rfl⟩)) | ((first | (apply run_lss; (rotate_left 2); (focus rfl)) | (apply run_leq; (rotate_left 2); (focus rfl)) | (apply run_gtr; (rotate_left 2); (focus rfl)) | (apply run_geq; (rotate_left 2); (focus rfl)) | (apply run_eql; (rotate_left 2); (focus rfl)) | (apply run_neq; (rotate_left 2); (focus rfl)) | (apply run_seq; (rotate_left 2); (focus rfl)) | (apply run_sneq; (rotate_left 2); (focus rfl))); (focus rfl); (focus rfl); (rotate_right 2); (focus exact wt); (focus rfl); (all_goals (intro h; dsimp only [upd])))))
      exact pst_fin rfl (by exact resa) _ (.inl ⟨by unfold writeE; rw [if_neg (by simp [h0]), if_pos h1]; exact h1, by unfold writeE; rw [if_neg (by simp [h0]), if_pos h1]; rfl, rfl⟩) (by exact hsa)
  · (refine spec_enter Try.func26 Try.ntmps26 rfl rfl fun Fr => ?_; dsimp only [List.cons_append, List.nil_append, ini, Nat.reduceAdd])
    (repeat' (first | (first | (apply run_qg 1; (focus rfl); (focus exact wt); (focus rfl); (focus (exact qg1))) | (apply run_qg 2; (focus rfl); (focus exact wt); (focus rfl); (focus (exact qg2))) | (apply run_qg 3; (focus rfl); (focus exact wt); (focus rfl); (focus (exact qg3))) | (apply run_qg 4; (focus rfl); (focus exact wt); (focus rfl); (focus (exact qg4))) | (apply run_qg 5; (focus rfl); (focus exact wt); (focus rfl); (focus (exact qg5))) | (apply run_qg 6; (focus rfl); (focus exact wt); (focus rfl); (focus (exact qg6))) | refine cod_seq ?_ | refine cod_region ?_ | refine run_nil ?_ | refine pst_then ?_ | (apply cod_cond_t; (focus rfl)) | (apply cod_cond_f; (focus rfl)) | refine cod_block ?_ | refine cod_exit ?_ | refine cod_ret ?_ | refine cod_skip ?_ | refine pst_block_here ?_ | refine pst_block_out rfl ?_ | refine pst_block_ret ?_ | refine pst_then_exit ?_ | refine pst_then_ret ?_ | refine pst_block ?_ | (apply run_osg 8; (focus rfl); (focus exact wt); (focus rfl); (focus (exact opr_box_agg rfl rfl)); (rintro _ _ ⟨b, rfl, rfl⟩)) | (apply run_osg 8; (focus rfl); (focus exact wt); (focus rfl); (focus (exact opr_box_one rfl rfl rfl)); (rintro _ _ ⟨b, rfl, rfl⟩)) | (apply run_osg 8; (focus rfl); (focus exact wt); (focus rfl); (focus (exact opr_new rfl)); (rintro _ _ ⟨b, rfl, rfl⟩)) | (apply run_ong 9; (focus rfl); (focus exact wt); (focus (exact opr_store_box_agg rfl rfl rfl (by exact pka) rfl rfl rfl (by exact spla))); (rintro _ _ ⟨rfl, rfl⟩)) | (apply run_ong 9; (focus rfl); (focus exact wt); (focus (exact opr_store_box_one rfl rfl rfl rfl (by exact pka) rfl (by exact seta))); (rintro _ _ ⟨rfl, rfl⟩)) | (apply run_osg 10; (focus rfl); (focus exact wt); (focus rfl); (focus (exact opr_buildSlice rfl rfl rfl (by exact blda) rfl rfl (by decide) rfl)); (rintro _ _ ⟨q, rfl, rfl⟩)) | (apply run_offs; (focus rfl); (focus rfl); (focus rfl)) | (apply run_offn; (focus rfl); (focus rfl))) | (apply run_osg 7; (focus rfl); (focus exact wt); (focus rfl); (focus (first | exact opr_call_ls (by rfl) (CK ..) (by rfl) (by exact lpa) | exact opr_call_s (by rfl) (CK ..) (by rfl) (by exact pca))); (rintro _ _ ⟨rfl, rfl⟩)) | ((first | (apply run_lss; (rotate_left 2); (focus rfl)) | (apply run_leq; (rotate_left 2); (focus rfl)) | (apply run_gtr; (rotate_left 2); (focus rfl)) | (apply run_geq; (rotate_left 2); (focus rfl)) | (apply run_eql; (rotate_left 2); (focus rfl)) | (apply run_neq; (rotate_left 2); (focus rfl)) | (apply run_seq; (rotate_left 2); (focus rfl)) | (apply run_sneq; (rotate_left 2); (focus rfl))); (focus rfl); (focus rfl); (rotate_right 2); (focus exact wt); (focus rfl); (all_goals (intro h; dsimp only [upd])))))
    exact pst_fin rfl (by exact resa) _ (.inl ⟨by unfold writeE; rw [if_pos h0]; exact h0, by unfold writeE; rw [if_pos h0]; rfl, rfl⟩) (by exact hsa)
/-- the cells, the writes of ps for which K says so (from number i on) laid over them -/
def land (K : Nat → Bool) : Nat → List ByteArray → List (Int × ByteArray) → List ByteArray
  | _, cs, [] => cs
  | i, cs, p :: ps => land K (i + 1) (if K i then cs.set p.1.toNat p.2 else cs) ps
theorem land_len (K : Nat → Bool) (ps : List (Int × ByteArray)) : ∀ i cs, (land K i cs ps).length = cs.length := by
  induction ps with
  | nil => intro i cs; rfl
  | cons p ps ih => intro i cs; simp only [land]; rw [ih]; split <;> simp
theorem land_take (K : Nat → Bool) {ps : List (Int × ByteArray)} {k : Nat} {p : Int × ByteArray} (hp : ps[k]? = some p) : ∀ i cs, land K i cs (ps.take (k + 1)) = if K (i + k) then (land K i cs (ps.take k)).set p.1.toNat p.2 else land K i cs (ps.take k) := by
  induction ps generalizing k with
  | nil => simp at hp
  | cons q ps ih =>
    intro i cs
    cases k with
    | zero =>
      simp at hp
      subst hp
      simp [land]
    | succ k =>
      simp only [List.take_succ_cons, land]
      rw [ih (by simpa using hp), show i + 1 + k = i + (k + 1) from by omega]
theorem land_all (K : Nat → Bool) {ps : List (Int × ByteArray)} {k : Nat} (hk : ps.length ≤ k) (i : Nat) (cs : List ByteArray) : land K i cs (ps.take k) = land K i cs ps := by rw [List.take_of_length_le hk]

set_option maxRecDepth 100000 in
set_option maxHeartbeats 8000000 in
theorem landed_any (a w : Option Addr) (ca cw : Nat) (cs : List ByteArray) (ps : List (Int × ByteArray)) (f : FuncId) (cap : List Value) (C : List Ent) (K : Nat → Bool) (hc : cs.length ≤ 1000000) (hp : ps.length ≤ 1000000) (hin : ∀ p ∈ ps, 0 ≤ p.1 ∧ p.1 < cs.length)
    [hf : Cal Try.prog f] (hK : ∀ i : Nat, i < ps.length → Ct Try.prog f ([.int .i64 (i : Int)] ++ cap) C fun v H' => v = .bool (K i) ∧ H' = C) :
    Ct Try.prog 36 [.agg #[.slice a cs.length ca, .slice w ps.length cw], .func (.func f) #[] cap.toArray] ([sl 1 (.slice a cs.length ca) (cs.map fS), sl 2 (.slice w ps.length cw) (ps.map fP)] ++ C) fun v H' => ∃ qa ca, v = .agg #[.slice qa cs.length ca, .slice none 0 0] ∧ H' = own (.slice qa cs.length ca) 9 1 cs.length (flat fS (land K 0 cs ps)) :: C := by
  (refine spec_enter Try.func36 Try.ntmps36 rfl rfl fun Fr => ?_; dsimp only [List.cons_append, List.nil_append, ini, Nat.reduceAdd])
  (repeat' (first | (first | (apply run_qg 1; (focus rfl); (focus exact wt); (focus rfl); (focus (exact qg1))) | (apply run_qg 2; (focus rfl); (focus exact wt); (focus rfl); (focus (exact qg2))) | (apply run_qg 3; (focus rfl); (focus exact wt); (focus rfl); (focus (exact qg3))) | (apply run_qg 4; (focus rfl); (focus exact wt); (focus rfl); (focus (exact qg4))) | (apply run_qg 5; (focus rfl); (focus exact wt); (focus rfl); (focus (exact qg5))) | (apply run_qg 6; (focus rfl); (focus exact wt); (focus rfl); (focus (exact qg6))) | refine cod_seq ?_ | refine cod_region ?_ | refine run_nil ?_ | refine pst_then ?_ | (apply cod_cond_t; (focus rfl)) | (apply cod_cond_f; (focus rfl)) | refine cod_block ?_ | refine cod_exit ?_ | refine cod_ret ?_ | refine cod_skip ?_ | refine pst_block_here ?_ | refine pst_block_out rfl ?_ | refine pst_block_ret ?_ | refine pst_then_exit ?_ | refine pst_then_ret ?_ | refine pst_block ?_ | (apply run_osg 8; (focus rfl); (focus exact wt); (focus rfl); (focus (exact opr_box_agg rfl rfl)); (rintro _ _ ⟨b, rfl, rfl⟩)) | (apply run_osg 8; (focus rfl); (focus exact wt); (focus rfl); (focus (exact opr_box_one rfl rfl rfl)); (rintro _ _ ⟨b, rfl, rfl⟩)) | (apply run_osg 8; (focus rfl); (focus exact wt); (focus rfl); (focus (exact opr_new rfl)); (rintro _ _ ⟨b, rfl, rfl⟩)) | (apply run_ong 9; (focus rfl); (focus exact wt); (focus (exact opr_store_box_agg rfl rfl rfl (by exact pka) rfl rfl rfl (by exact spla))); (rintro _ _ ⟨rfl, rfl⟩)) | (apply run_ong 9; (focus rfl); (focus exact wt); (focus (exact opr_store_box_one rfl rfl rfl rfl (by exact pka) rfl (by exact seta))); (rintro _ _ ⟨rfl, rfl⟩)) | (apply run_osg 10; (focus rfl); (focus exact wt); (focus rfl); (focus (exact opr_buildSlice rfl rfl rfl (by exact blda) rfl rfl (by decide) rfl)); (rintro _ _ ⟨q, rfl, rfl⟩)) | (apply run_offs; (focus rfl); (focus rfl); (focus rfl)) | (apply run_offn; (focus rfl); (focus rfl))) | ((first | (apply run_lss; (rotate_left 2); (focus rfl)) | (apply run_leq; (rotate_left 2); (focus rfl)) | (apply run_gtr; (rotate_left 2); (focus rfl)) | (apply run_geq; (rotate_left 2); (focus rfl)) | (apply run_eql; (rotate_left 2); (focus rfl)) | (apply run_neq; (rotate_left 2); (focus rfl)) | (apply run_seq; (rotate_left 2); (focus rfl)) | (apply run_sneq; (rotate_left 2); (focus rfl))); (focus rfl); (focus rfl); (rotate_right 2); (focus exact wt); (focus rfl); (all_goals (intro h; dsimp only [upd])))))
  (refine run_os wt (by rfl) (by exact opr_append_nil rfl rfl rfl (by exact pka) (by intro _; rfl) (by (first | exact one_fS | exact one_fI | exact one_fB | exact one_fP | exact one_fIIS | exact one_fIIIS | exact one_fII | exact one_fSI | exact one_fIIU | exact one_fY | exact one_fBl | exact one_fT | exact one_fE | assumption)) rfl (by omega) (by (unfold maxLen); omega)) ?_; rintro _ _ ⟨q1, c1, rfl, rfl⟩)
  (repeat' (first | (first | (apply run_qg 1; (focus rfl); (focus exact wt); (focus rfl); (focus (exact qg1))) | (apply run_qg 2; (focus rfl); (focus exact wt); (focus rfl); (focus (exact qg2))) | (apply run_qg 3; (focus rfl); (focus exact wt); (focus rfl); (focus (exact qg3))) | (apply run_qg 4; (focus rfl); (focus exact wt); (focus rfl); (focus (exact qg4))) | (apply run_qg 5; (focus rfl); (focus exact wt); (focus rfl); (focus (exact qg5))) | (apply run_qg 6; (focus rfl); (focus exact wt); (focus rfl); (focus (exact qg6))) | refine cod_seq ?_ | refine cod_region ?_ | refine run_nil ?_ | refine pst_then ?_ | (apply cod_cond_t; (focus rfl)) | (apply cod_cond_f; (focus rfl)) | refine cod_block ?_ | refine cod_exit ?_ | refine cod_ret ?_ | refine cod_skip ?_ | refine pst_block_here ?_ | refine pst_block_out rfl ?_ | refine pst_block_ret ?_ | refine pst_then_exit ?_ | refine pst_then_ret ?_ | refine pst_block ?_ | (apply run_osg 8; (focus rfl); (focus exact wt); (focus rfl); (focus (exact opr_box_agg rfl rfl)); (rintro _ _ ⟨b, rfl, rfl⟩)) | (apply run_osg 8; (focus rfl); (focus exact wt); (focus rfl); (focus (exact opr_box_one rfl rfl rfl)); (rintro _ _ ⟨b, rfl, rfl⟩)) | (apply run_osg 8; (focus rfl); (focus exact wt); (focus rfl); (focus (exact opr_new rfl)); (rintro _ _ ⟨b, rfl, rfl⟩)) | (apply run_ong 9; (focus rfl); (focus exact wt); (focus (exact opr_store_box_agg rfl rfl rfl (by exact pka) rfl rfl rfl (by exact spla))); (rintro _ _ ⟨rfl, rfl⟩)) | (apply run_ong 9; (focus rfl); (focus exact wt); (focus (exact opr_store_box_one rfl rfl rfl rfl (by exact pka) rfl (by exact seta))); (rintro _ _ ⟨rfl, rfl⟩)) | (apply run_osg 10; (focus rfl); (focus exact wt); (focus rfl); (focus (exact opr_buildSlice rfl rfl rfl (by exact blda) rfl rfl (by decide) rfl)); (rintro _ _ ⟨q, rfl, rfl⟩)) | (apply run_offs; (focus rfl); (focus rfl); (focus rfl)) | (apply run_offn; (focus rfl); (focus rfl))) | ((first | (apply run_lss; (rotate_left 2); (focus rfl)) | (apply run_leq; (rotate_left 2); (focus rfl)) | (apply run_gtr; (rotate_left 2); (focus rfl)) | (apply run_geq; (rotate_left 2); (focus rfl)) | (apply run_eql; (rotate_left 2); (focus rfl)) | (apply run_neq; (rotate_left 2); (focus rfl)) | (apply run_seq; (rotate_left 2); (focus rfl)) | (apply run_sneq; (rotate_left 2); (focus rfl))); (focus rfl); (focus rfl); (rotate_right 2); (focus exact wt); (focus rfl); (all_goals (intro h; dsimp only [upd])))))
  (refine cod_loop_rw (σ := Nat) (fun k => k ≤ ps.length) (fun k => [(15, .int .i64 (k : Int))]) (fun k => [own (.slice q1 cs.length c1) 9 1 cs.length (flat fS (land K 0 cs (ps.take k)))]) _ (fun k => ps.length - k) (0) (by simp) (by exact fsa) (by (first | exact HSub.of_picks_rest (by exact pca))) (fun k hk => ?_); dsimp only [List.cons_append, List.nil_append])
  rcases get_or ps k with ⟨p, hpk, hlt⟩ | hge
  · obtain ⟨i, hi⟩ : ∃ i : Nat, p.1 = (i : Int) := ⟨p.1.toNat, by have := (hin p (List.mem_of_getElem? hpk)).1; omega⟩
    have hi2 : i < cs.length := by have := (hin p (List.mem_of_getElem? hpk)).2; omega
    obtain ⟨p1, t⟩ := p
    simp only at hi
    subst hi
    have hlt2 := land_take K hpk 0 cs
    rw [Nat.zero_add] at hlt2
    dsimp only [Int.toNat_natCast] at hlt2
    have hll := land_len K (ps.take k) 0 cs
    obtain ⟨s0, hs0⟩ : ∃ s0, (land K 0 cs (ps.take k))[i]? = some s0 := ⟨_, List.getElem?_eq_getElem (by omega)⟩
    by_cases hKk : K k = true
    · rw [if_pos hKk] at hlt2
      have hKc := hK k hlt
      rw [hKk] at hKc
      (repeat' (first | (first | (apply run_qg 1; (focus rfl); (focus exact wt); (focus rfl); (focus (exact qg1))) | (apply run_qg 2; (focus rfl); (focus exact wt); (focus rfl); (focus (exact qg2))) | (apply run_qg 3; (focus rfl); (focus exact wt); (focus rfl); (focus (exact qg3))) | (apply run_qg 4; (focus rfl); (focus exact wt); (focus rfl); (focus (exact qg4))) | (apply run_qg 5; (focus rfl); (focus exact wt); (focus rfl); (focus (exact qg5))) | (apply run_qg 6; (focus rfl); (focus exact wt); (focus rfl); (focus (exact qg6))) | refine cod_seq ?_ | refine cod_region ?_ | refine run_nil ?_ | refine pst_then ?_ | (apply cod_cond_t; (focus rfl)) | (apply cod_cond_f; (focus rfl)) | refine cod_block ?_ | refine cod_exit ?_ | refine cod_ret ?_ | refine cod_skip ?_ | refine pst_block_here ?_ | refine pst_block_out rfl ?_ | refine pst_block_ret ?_ | refine pst_then_exit ?_ | refine pst_then_ret ?_ | refine pst_block ?_ | (apply run_osg 8; (focus rfl); (focus exact wt); (focus rfl); (focus (exact opr_box_agg rfl rfl)); (rintro _ _ ⟨b, rfl, rfl⟩)) | (apply run_osg 8; (focus rfl); (focus exact wt); (focus rfl); (focus (exact opr_box_one rfl rfl rfl)); (rintro _ _ ⟨b, rfl, rfl⟩)) | (apply run_osg 8; (focus rfl); (focus exact wt); (focus rfl); (focus (exact opr_new rfl)); (rintro _ _ ⟨b, rfl, rfl⟩)) | (apply run_ong 9; (focus rfl); (focus exact wt); (focus (exact opr_store_box_agg rfl rfl rfl (by exact pka) rfl rfl rfl (by exact spla))); (rintro _ _ ⟨rfl, rfl⟩)) | (apply run_ong 9; (focus rfl); (focus exact wt); (focus (exact opr_store_box_one rfl rfl rfl rfl (by exact pka) rfl (by exact seta))); (rintro _ _ ⟨rfl, rfl⟩)) | (apply run_osg 10; (focus rfl); (focus exact wt); (focus rfl); (focus (exact opr_buildSlice rfl rfl rfl (by exact blda) rfl rfl (by decide) rfl)); (rintro _ _ ⟨q, rfl, rfl⟩)) | (apply run_offs; (focus rfl); (focus rfl); (focus rfl)) | (apply run_offn; (focus rfl); (focus rfl))) | ((first | (apply run_lss; (rotate_left 2); (focus rfl)) | (apply run_leq; (rotate_left 2); (focus rfl)) | (apply run_gtr; (rotate_left 2); (focus rfl)) | (apply run_geq; (rotate_left 2); (focus rfl)) | (apply run_eql; (rotate_left 2); (focus rfl)) | (apply run_neq; (rotate_left 2); (focus rfl)) | (apply run_seq; (rotate_left 2); (focus rfl)) | (apply run_sneq; (rotate_left 2); (focus rfl))); (focus rfl); (focus rfl); (rotate_right 2); (focus exact wt); (focus rfl); (all_goals (intro h; dsimp only [upd])))))
      (refine run_os wt rfl (opr_callv_tail rfl rfl rfl (hKc) (by repeat (first | exact tail_here _ | apply tail_cons))) ?_; rintro _ _ ⟨rfl, rfl⟩)
      (repeat' (first | (first | (apply run_qg 1; (focus rfl); (focus exact wt); (focus rfl); (focus (exact qg1))) | (apply run_qg 2; (focus rfl); (focus exact wt); (focus rfl); (focus (exact qg2))) | (apply run_qg 3; (focus rfl); (focus exact wt); (focus rfl); (focus (exact qg3))) | (apply run_qg 4; (focus rfl); (focus exact wt); (focus rfl); (focus (exact qg4))) | (apply run_qg 5; (focus rfl); (focus exact wt); (focus rfl); (focus (exact qg5))) | (apply run_qg 6; (focus rfl); (focus exact wt); (focus rfl); (focus (exact qg6))) | refine cod_seq ?_ | refine cod_region ?_ | refine run_nil ?_ | refine pst_then ?_ | (apply cod_cond_t; (focus rfl)) | (apply cod_cond_f; (focus rfl)) | refine cod_block ?_ | refine cod_exit ?_ | refine cod_ret ?_ | refine cod_skip ?_ | refine pst_block_here ?_ | refine pst_block_out rfl ?_ | refine pst_block_ret ?_ | refine pst_then_exit ?_ | refine pst_then_ret ?_ | refine pst_block ?_ | (apply run_osg 8; (focus rfl); (focus exact wt); (focus rfl); (focus (exact opr_box_agg rfl rfl)); (rintro _ _ ⟨b, rfl, rfl⟩)) | (apply run_osg 8; (focus rfl); (focus exact wt); (focus rfl); (focus (exact opr_box_one rfl rfl rfl)); (rintro _ _ ⟨b, rfl, rfl⟩)) | (apply run_osg 8; (focus rfl); (focus exact wt); (focus rfl); (focus (exact opr_new rfl)); (rintro _ _ ⟨b, rfl, rfl⟩)) | (apply run_ong 9; (focus rfl); (focus exact wt); (focus (exact opr_store_box_agg rfl rfl rfl (by exact pka) rfl rfl rfl (by exact spla))); (rintro _ _ ⟨rfl, rfl⟩)) | (apply run_ong 9; (focus rfl); (focus exact wt); (focus (exact opr_store_box_one rfl rfl rfl rfl (by exact pka) rfl (by exact seta))); (rintro _ _ ⟨rfl, rfl⟩)) | (apply run_osg 10; (focus rfl); (focus exact wt); (focus rfl); (focus (exact opr_buildSlice rfl rfl rfl (by exact blda) rfl rfl (by decide) rfl)); (rintro _ _ ⟨q, rfl, rfl⟩)) | (apply run_offs; (focus rfl); (focus rfl); (focus rfl)) | (apply run_offn; (focus rfl); (focus rfl))) | ((first | (apply run_lss; (rotate_left 2); (focus rfl)) | (apply run_leq; (rotate_left 2); (focus rfl)) | (apply run_gtr; (rotate_left 2); (focus rfl)) | (apply run_geq; (rotate_left 2); (focus rfl)) | (apply run_eql; (rotate_left 2); (focus rfl)) | (apply run_neq; (rotate_left 2); (focus rfl)) | (apply run_seq; (rotate_left 2); (focus rfl)) | (apply run_sneq; (rotate_left 2); (focus rfl))); (focus rfl); (focus rfl); (rotate_right 2); (focus exact wt); (focus rfl); (all_goals (intro h; dsimp only [upd])))))
      (refine run_on wt (opr_store_ownm (f := fS) (q' := t) rfl rfl rfl rfl (by exact pka) rfl (by omega) (by intro _; rfl) (by assumption) rfl rfl (by rfl)) ?_; rintro _ _ ⟨rfl, rfl⟩)
      rw [← hlt2]
      (repeat' (first | (first | (apply run_qg 1; (focus rfl); (focus exact wt); (focus rfl); (focus (exact qg1))) | (apply run_qg 2; (focus rfl); (focus exact wt); (focus rfl); (focus (exact qg2))) | (apply run_qg 3; (focus rfl); (focus exact wt); (focus rfl); (focus (exact qg3))) | (apply run_qg 4; (focus rfl); (focus exact wt); (focus rfl); (focus (exact qg4))) | (apply run_qg 5; (focus rfl); (focus exact wt); (focus rfl); (focus (exact qg5))) | (apply run_qg 6; (focus rfl); (focus exact wt); (focus rfl); (focus (exact qg6))) | refine cod_seq ?_ | refine cod_region ?_ | refine run_nil ?_ | refine pst_then ?_ | (apply cod_cond_t; (focus rfl)) | (apply cod_cond_f; (focus rfl)) | refine cod_block ?_ | refine cod_exit ?_ | refine cod_ret ?_ | refine cod_skip ?_ | refine pst_block_here ?_ | refine pst_block_out rfl ?_ | refine pst_block_ret ?_ | refine pst_then_exit ?_ | refine pst_then_ret ?_ | refine pst_block ?_ | (apply run_osg 8; (focus rfl); (focus exact wt); (focus rfl); (focus (exact opr_box_agg rfl rfl)); (rintro _ _ ⟨b, rfl, rfl⟩)) | (apply run_osg 8; (focus rfl); (focus exact wt); (focus rfl); (focus (exact opr_box_one rfl rfl rfl)); (rintro _ _ ⟨b, rfl, rfl⟩)) | (apply run_osg 8; (focus rfl); (focus exact wt); (focus rfl); (focus (exact opr_new rfl)); (rintro _ _ ⟨b, rfl, rfl⟩)) | (apply run_ong 9; (focus rfl); (focus exact wt); (focus (exact opr_store_box_agg rfl rfl rfl (by exact pka) rfl rfl rfl (by exact spla))); (rintro _ _ ⟨rfl, rfl⟩)) | (apply run_ong 9; (focus rfl); (focus exact wt); (focus (exact opr_store_box_one rfl rfl rfl rfl (by exact pka) rfl (by exact seta))); (rintro _ _ ⟨rfl, rfl⟩)) | (apply run_osg 10; (focus rfl); (focus exact wt); (focus rfl); (focus (exact opr_buildSlice rfl rfl rfl (by exact blda) rfl rfl (by decide) rfl)); (rintro _ _ ⟨q, rfl, rfl⟩)) | (apply run_offs; (focus rfl); (focus rfl); (focus rfl)) | (apply run_offn; (focus rfl); (focus rfl))) | ((first | (apply run_lss; (rotate_left 2); (focus rfl)) | (apply run_leq; (rotate_left 2); (focus rfl)) | (apply run_gtr; (rotate_left 2); (focus rfl)) | (apply run_geq; (rotate_left 2); (focus rfl)) | (apply run_eql; (rotate_left 2); (focus rfl)) | (apply run_neq; (rotate_left 2); (focus rfl)) | (apply run_seq; (rotate_left 2); (focus rfl)) | (apply run_sneq; (rotate_left 2); (focus rfl))); (focus rfl); (focus rfl); (rotate_right 2); (focus exact wt); (focus rfl); (all_goals (intro h; dsimp only [upd])))))
      refine pst_again (k + 1) ?_ (FSub.of (by (try dsimp only); exact fsa)) (by (try dsimp only); exact hsa) ?_
      · show k + 1 ≤ ps.length
        omega
      · show ps.length - (k + 1) < ps.length - k
        omega
    · rw [if_neg hKk] at hlt2
      have hKc := hK k hlt
      rw [Bool.eq_false_iff.2 hKk] at hKc
      (repeat' (first | (first | (apply run_qg 1; (focus rfl); (focus exact wt); (focus rfl); (focus (exact qg1))) | (apply run_qg 2; (focus rfl); (focus exact wt); (focus rfl); (focus (exact qg2))) | (apply run_qg 3; (focus rfl); (focus exact wt); (focus rfl); (focus (exact qg3))) | (apply run_qg 4; (focus rfl); (focus exact wt); (focus rfl); (focus (exact qg4))) | (apply run_qg 5; (focus rfl); (focus exact wt); (focus rfl); (focus (exact qg5))) | (apply run_qg 6; (focus rfl); (focus exact wt); (focus rfl); (focus (exact qg6))) | refine cod_seq ?_ | refine cod_region ?_ | refine run_nil ?_ | refine pst_then ?_ | (apply cod_cond_t; (focus rfl)) | (apply cod_cond_f; (focus rfl)) | refine cod_block ?_ | refine cod_exit ?_ | refine cod_ret ?_ | refine cod_skip ?_ | refine pst_block_here ?_ | refine pst_block_out rfl ?_ | refine pst_block_ret ?_ | refine pst_then_exit ?_ | refine pst_then_ret ?_ | refine pst_block ?_ | (apply run_osg 8; (focus rfl); (focus exact wt); (focus rfl); (focus (exact opr_box_agg rfl rfl)); (rintro _ _ ⟨b, rfl, rfl⟩)) | (apply run_osg 8; (focus rfl); (focus exact wt); (focus rfl); (focus (exact opr_box_one rfl rfl rfl)); (rintro _ _ ⟨b, rfl, rfl⟩)) | (apply run_osg 8; (focus rfl); (focus exact wt); (focus rfl); (focus (exact opr_new rfl)); (rintro _ _ ⟨b, rfl, rfl⟩)) | (apply run_ong 9; (focus rfl); (focus exact wt); (focus (exact opr_store_box_agg rfl rfl rfl (by exact pka) rfl rfl rfl (by exact spla))); (rintro _ _ ⟨rfl, rfl⟩)) | (apply run_ong 9; (focus rfl); (focus exact wt); (focus (exact opr_store_box_one rfl rfl rfl rfl (by exact pka) rfl (by exact seta))); (rintro _ _ ⟨rfl, rfl⟩)) | (apply run_osg 10; (focus rfl); (focus exact wt); (focus rfl); (focus (exact opr_buildSlice rfl rfl rfl (by exact blda) rfl rfl (by decide) rfl)); (rintro _ _ ⟨q, rfl, rfl⟩)) | (apply run_offs; (focus rfl); (focus rfl); (focus rfl)) | (apply run_offn; (focus rfl); (focus rfl))) | ((first | (apply run_lss; (rotate_left 2); (focus rfl)) | (apply run_leq; (rotate_left 2); (focus rfl)) | (apply run_gtr; (rotate_left 2); (focus rfl)) | (apply run_geq; (rotate_left 2); (focus rfl)) | (apply run_eql; (rotate_left 2); (focus rfl)) | (apply run_neq; (rotate_left 2); (focus rfl)) | (apply run_seq; (rotate_left 2); (focus rfl)) | (apply run_sneq; (rotate_left 2); (focus rfl))); (focus rfl); (focus rfl); (rotate_right 2); (focus exact wt); (focus rfl); (all_goals (intro h; dsimp only [upd])))))
      (refine run_os wt rfl (opr_callv_tail rfl rfl rfl (hKc) (by repeat (first | exact tail_here _ | apply tail_cons))) ?_; rintro _ _ ⟨rfl, rfl⟩)
      rw [← hlt2]
      (repeat' (first | (first | (apply run_qg 1; (focus rfl); (focus exact wt); (focus rfl); (focus (exact qg1))) | (apply run_qg 2; (focus rfl); (focus exact wt); (focus rfl); (focus (exact qg2))) | (apply run_qg 3; (focus rfl); (focus exact wt); (focus rfl); (focus (exact qg3))) | (apply run_qg 4; (focus rfl); (focus exact wt); (focus rfl); (focus (exact qg4))) | (apply run_qg 5; (focus rfl); (focus exact wt); (focus rfl); (focus (exact qg5))) | (apply run_qg 6; (focus rfl); (focus exact wt); (focus rfl); (focus (exact qg6))) | refine cod_seq ?_ | refine cod_region ?_ | refine run_nil ?_ | refine pst_then ?_ | (apply cod_cond_t; (focus rfl)) | (apply cod_cond_f; (focus rfl)) | refine cod_block ?_ | refine cod_exit ?_ | refine cod_ret ?_ | refine cod_skip ?_ | refine pst_block_here ?_ | refine pst_block_out rfl ?_ | refine pst_block_ret ?_ | refine pst_then_exit ?_ | refine pst_then_ret ?_ | refine pst_block ?_ | (apply run_osg 8; (focus rfl); (focus exact wt); (focus rfl); (focus (exact opr_box_agg rfl rfl)); (rintro _ _ ⟨b, rfl, rfl⟩)) | (apply run_osg 8; (focus rfl); (focus exact wt); (focus rfl); (focus (exact opr_box_one rfl rfl rfl)); (rintro _ _ ⟨b, rfl, rfl⟩)) | (apply run_osg 8; (focus rfl); (focus exact wt); (focus rfl); (focus (exact opr_new rfl)); (rintro _ _ ⟨b, rfl, rfl⟩)) | (apply run_ong 9; (focus rfl); (focus exact wt); (focus (exact opr_store_box_agg rfl rfl rfl (by exact pka) rfl rfl rfl (by exact spla))); (rintro _ _ ⟨rfl, rfl⟩)) | (apply run_ong 9; (focus rfl); (focus exact wt); (focus (exact opr_store_box_one rfl rfl rfl rfl (by exact pka) rfl (by exact seta))); (rintro _ _ ⟨rfl, rfl⟩)) | (apply run_osg 10; (focus rfl); (focus exact wt); (focus rfl); (focus (exact opr_buildSlice rfl rfl rfl (by exact blda) rfl rfl (by decide) rfl)); (rintro _ _ ⟨q, rfl, rfl⟩)) | (apply run_offs; (focus rfl); (focus rfl); (focus rfl)) | (apply run_offn; (focus rfl); (focus rfl))) | ((first | (apply run_lss; (rotate_left 2); (focus rfl)) | (apply run_leq; (rotate_left 2); (focus rfl)) | (apply run_gtr; (rotate_left 2); (focus rfl)) | (apply run_geq; (rotate_left 2); (focus rfl)) | (apply run_eql; (rotate_left 2); (focus rfl)) | (apply run_neq; (rotate_left 2); (focus rfl)) | (apply run_seq; (rotate_left 2); (focus rfl)) | (apply run_sneq; (rotate_left 2); (focus rfl))); (focus rfl); (focus rfl); (rotate_right 2); (focus exact wt); (focus rfl); (all_goals (intro h; dsimp only [upd])))))
      refine pst_again (k + 1) ?_ (FSub.of (by (try dsimp only); exact fsa)) (by (try dsimp only); exact hsa) ?_
      · show k + 1 ≤ ps.length
        omega
      · show ps.length - (k + 1) < ps.length - k
        omega
  · rw [land_all K hge]
    (repeat' (first | (first | (apply run_qg 1; (focus rfl); (focus exact wt); (focus rfl); (focus (exact qg1))) | (apply run_qg 2; (focus rfl); (focus exact wt); (focus rfl); (focus (exact qg2))) | (apply run_qg 3; (focus rfl); (focus exact wt); (focus rfl); (focus (exact qg3))) | (apply run_qg 4; (focus rfl); (focus exact wt); (focus rfl); (focus (exact qg4))) | (apply run_qg 5; (focus rfl); (focus exact wt); (focus rfl); (focus (exact qg5))) | (apply run_qg 6; (focus rfl); (focus exact wt); (focus rfl); (focus (exact qg6))) | refine cod_seq ?_ | refine cod_region ?_ | refine run_nil ?_ | refine pst_then ?_ | (apply cod_cond_t; (focus rfl)) | (apply cod_cond_f; (focus rfl)) | refine cod_block ?_ | refine cod_exit ?_ | refine cod_ret ?_ | refine cod_skip ?_ | refine pst_block_here ?_ | refine pst_block_out rfl ?_ | refine pst_block_ret ?_ | refine pst_then_exit ?_ | refine pst_then_ret ?_ | refine pst_block ?_ | (apply run_osg 8; (focus rfl); (focus exact wt); (focus rfl); (focus (exact opr_box_agg rfl rfl)); (rintro _ _ ⟨b, rfl, rfl⟩)) | (apply run_osg 8; (focus rfl); (focus exact wt); (focus rfl); (focus (exact opr_box_one rfl rfl rfl)); (rintro _ _ ⟨b, rfl, rfl⟩)) | (apply run_osg 8; (focus rfl); (focus exact wt); (focus rfl); (focus (exact opr_new rfl)); (rintro _ _ ⟨b, rfl, rfl⟩)) | (apply run_ong 9; (focus rfl); (focus exact wt); (focus (exact opr_store_box_agg rfl rfl rfl (by exact pka) rfl rfl rfl (by exact spla))); (rintro _ _ ⟨rfl, rfl⟩)) | (apply run_ong 9; (focus rfl); (focus exact wt); (focus (exact opr_store_box_one rfl rfl rfl rfl (by exact pka) rfl (by exact seta))); (rintro _ _ ⟨rfl, rfl⟩)) | (apply run_osg 10; (focus rfl); (focus exact wt); (focus rfl); (focus (exact opr_buildSlice rfl rfl rfl (by exact blda) rfl rfl (by decide) rfl)); (rintro _ _ ⟨q, rfl, rfl⟩)) | (apply run_offs; (focus rfl); (focus rfl); (focus rfl)) | (apply run_offn; (focus rfl); (focus rfl))) | ((first | (apply run_lss; (rotate_left 2); (focus rfl)) | (apply run_leq; (rotate_left 2); (focus rfl)) | (apply run_gtr; (rotate_left 2); (focus rfl)) | (apply run_geq; (rotate_left 2); (focus rfl)) | (apply run_eql; (rotate_left 2); (focus rfl)) | (apply run_neq; (rotate_left 2); (focus rfl)) | (apply run_seq; (rotate_left 2); (focus rfl)) | (apply run_sneq; (rotate_left 2); (focus rfl))); (focus rfl); (focus rfl); (rotate_right 2); (focus exact wt); (focus rfl); (all_goals (intro h; dsimp only [upd])))))
    exact pst_fin rfl (by exact resa) _ (⟨_, _, rfl, rfl⟩) (by exact hsa)
/-- what a sync or a crash hands back -/
def NewCells (e : Int) (cs' : List ByteArray) (v : Value) (H' : List Ent) : Prop :=
  (e ≠ 0 ∧ v = .tuple #[noDisk, .int .i64 e] ∧ H' = []) ∨ (e = 0 ∧ ∃ qa ca, v = .tuple #[.agg #[.slice qa cs'.length ca, .slice none 0 0], .int .i64 0] ∧ H' = [own (.slice qa cs'.length ca) 9 1 cs'.length (flat fS cs')])
theorem good_in {cs : List ByteArray} {ps : List (Int × ByteArray)} (hg : Good cs ps) : ∀ p ∈ ps, 0 ≤ p.1 ∧ p.1 < cs.length := fun p hp => by
  have := put_zero.1 (hg.puts p hp)
  exact ⟨this.1, this.2.1⟩
set_option maxRecDepth 100000 in
set_option maxHeartbeats 8000000 in
theorem yes_any (i : Int) : Ct Try.prog 37 [.int .i64 i] [] fun v H' => v = .bool true ∧ H' = [] := by
  (refine spec_enter Try.func37 Try.ntmps37 rfl rfl fun Fr => ?_; dsimp only [List.cons_append, List.nil_append, ini, Nat.reduceAdd])
  (repeat' (first | (first | (apply run_qg 1; (focus rfl); (focus exact wt); (focus rfl); (focus (exact qg1))) | (apply run_qg 2; (focus rfl); (focus exact wt); (focus rfl); (focus (exact qg2))) | (apply run_qg 3; (focus rfl); (focus exact wt); (focus rfl); (focus (exact qg3))) | (apply run_qg 4; (focus rfl); (focus exact wt); (focus rfl); (focus (exact qg4))) | (apply run_qg 5; (focus rfl); (focus exact wt); (focus rfl); (focus (exact qg5))) | (apply run_qg 6; (focus rfl); (focus exact wt); (focus rfl); (focus (exact qg6))) | refine cod_seq ?_ | refine cod_region ?_ | refine run_nil ?_ | refine pst_then ?_ | (apply cod_cond_t; (focus rfl)) | (apply cod_cond_f; (focus rfl)) | refine cod_block ?_ | refine cod_exit ?_ | refine cod_ret ?_ | refine cod_skip ?_ | refine pst_block_here ?_ | refine pst_block_out rfl ?_ | refine pst_block_ret ?_ | refine pst_then_exit ?_ | refine pst_then_ret ?_ | refine pst_block ?_ | (apply run_osg 8; (focus rfl); (focus exact wt); (focus rfl); (focus (exact opr_box_agg rfl rfl)); (rintro _ _ ⟨b, rfl, rfl⟩)) | (apply run_osg 8; (focus rfl); (focus exact wt); (focus rfl); (focus (exact opr_box_one rfl rfl rfl)); (rintro _ _ ⟨b, rfl, rfl⟩)) | (apply run_osg 8; (focus rfl); (focus exact wt); (focus rfl); (focus (exact opr_new rfl)); (rintro _ _ ⟨b, rfl, rfl⟩)) | (apply run_ong 9; (focus rfl); (focus exact wt); (focus (exact opr_store_box_agg rfl rfl rfl (by exact pka) rfl rfl rfl (by exact spla))); (rintro _ _ ⟨rfl, rfl⟩)) | (apply run_ong 9; (focus rfl); (focus exact wt); (focus (exact opr_store_box_one rfl rfl rfl rfl (by exact pka) rfl (by exact seta))); (rintro _ _ ⟨rfl, rfl⟩)) | (apply run_osg 10; (focus rfl); (focus exact wt); (focus rfl); (focus (exact opr_buildSlice rfl rfl rfl (by exact blda) rfl rfl (by decide) rfl)); (rintro _ _ ⟨q, rfl, rfl⟩)) | (apply run_offs; (focus rfl); (focus rfl); (focus rfl)) | (apply run_offn; (focus rfl); (focus rfl))) | ((first | (apply run_lss; (rotate_left 2); (focus rfl)) | (apply run_leq; (rotate_left 2); (focus rfl)) | (apply run_gtr; (rotate_left 2); (focus rfl)) | (apply run_geq; (rotate_left 2); (focus rfl)) | (apply run_eql; (rotate_left 2); (focus rfl)) | (apply run_neq; (rotate_left 2); (focus rfl)) | (apply run_seq; (rotate_left 2); (focus rfl)) | (apply run_sneq; (rotate_left 2); (focus rfl))); (focus rfl); (focus rfl); (rotate_right 2); (focus exact wt); (focus rfl); (all_goals (intro h; dsimp only [upd])))))
  exact pst_fin rfl (by exact resa) _ (⟨rfl, rfl⟩) (by exact hsa)
set_option maxRecDepth 100000 in
set_option maxHeartbeats 8000000 in
theorem sync_any (a w : Option Addr) (ca cw : Nat) (cs : List ByteArray) (ps : List (Int × ByteArray)) (hc : cs.length ≤ maxLen) (hp : ps.length ≤ maxLen) :
    Ct Try.prog 15 [.agg #[.slice a cs.length ca, .slice w ps.length cw]] [sl 1 (.slice a cs.length ca) (cs.map fS), sl 2 (.slice w ps.length cw) (ps.map fP)] (NewCells (checkD cs ps) (land (fun _ => true) 0 cs ps)) := by
  have CK := check_any a w ca cw cs ps hc hp
  have hll := land_len (fun _ => true) ps 0 cs
  by_cases h0 : checkD cs ps = 0
  · have hg := good_of h0
    have hn := hg.n1
    have hl := hg.wait
    rw [h0] at CK
    have LD := landed_any a w ca cw cs ps 37 [] [] (fun _ => true) (by omega) (by omega) (good_in hg) fun i _ => yes_any i
    (refine spec_enter Try.func15 Try.ntmps15 rfl rfl fun Fr => ?_; dsimp only [List.cons_append, List.nil_append, ini, Nat.reduceAdd])
    (repeat' (first | (first | (apply run_qg 1; (focus rfl); (focus exact wt); (focus rfl); (focus (exact qg1))) | (apply run_qg 2; (focus rfl); (focus exact wt); (focus rfl); (focus (exact qg2))) | (apply run_qg 3; (focus rfl); (focus exact wt); (focus rfl); (focus (exact qg3))) | (apply run_qg 4; (focus rfl); (focus exact wt); (focus rfl); (focus (exact qg4))) | (apply run_qg 5; (focus rfl); (focus exact wt); (focus rfl); (focus (exact qg5))) | (apply run_qg 6; (focus rfl); (focus exact wt); (focus rfl); (focus (exact qg6))) | refine cod_seq ?_ | refine cod_region ?_ | refine run_nil ?_ | refine pst_then ?_ | (apply cod_cond_t; (focus rfl)) | (apply cod_cond_f; (focus rfl)) | refine cod_block ?_ | refine cod_exit ?_ | refine cod_ret ?_ | refine cod_skip ?_ | refine pst_block_here ?_ | refine pst_block_out rfl ?_ | refine pst_block_ret ?_ | refine pst_then_exit ?_ | refine pst_then_ret ?_ | refine pst_block ?_ | (apply run_osg 8; (focus rfl); (focus exact wt); (focus rfl); (focus (exact opr_box_agg rfl rfl)); (rintro _ _ ⟨b, rfl, rfl⟩)) | (apply run_osg 8; (focus rfl); (focus exact wt); (focus rfl); (focus (exact opr_box_one rfl rfl rfl)); (rintro _ _ ⟨b, rfl, rfl⟩)) | (apply run_osg 8; (focus rfl); (focus exact wt); (focus rfl); (focus (exact opr_new rfl)); (rintro _ _ ⟨b, rfl, rfl⟩)) | (apply run_ong 9; (focus rfl); (focus exact wt); (focus (exact opr_store_box_agg rfl rfl rfl (by exact pka) rfl rfl rfl (by exact spla))); (rintro _ _ ⟨rfl, rfl⟩)) | (apply run_ong 9; (focus rfl); (focus exact wt); (focus (exact opr_store_box_one rfl rfl rfl rfl (by exact pka) rfl (by exact seta))); (rintro _ _ ⟨rfl, rfl⟩)) | (apply run_osg 10; (focus rfl); (focus exact wt); (focus rfl); (focus (exact opr_buildSlice rfl rfl rfl (by exact blda) rfl rfl (by decide) rfl)); (rintro _ _ ⟨q, rfl, rfl⟩)) | (apply run_offs; (focus rfl); (focus rfl); (focus rfl)) | (apply run_offn; (focus rfl); (focus rfl))) | (apply run_osg 7; (focus rfl); (focus exact wt); (focus rfl); (focus (first | exact opr_call_ls (by rfl) (CK ..) (by rfl) (by exact lpa) | exact opr_call_s (by rfl) (CK ..) (by rfl) (by exact pca))); (rintro _ _ ⟨rfl, rfl⟩)) | ((first | (apply run_lss; (rotate_left 2); (focus rfl)) | (apply run_leq; (rotate_left 2); (focus rfl)) | (apply run_gtr; (rotate_left 2); (focus rfl)) | (apply run_geq; (rotate_left 2); (focus rfl)) | (apply run_eql; (rotate_left 2); (focus rfl)) | (apply run_neq; (rotate_left 2); (focus rfl)) | (apply run_seq; (rotate_left 2); (focus rfl)) | (apply run_sneq; (rotate_left 2); (focus rfl))); (focus rfl); (focus rfl); (rotate_right 2); (focus exact wt); (focus rfl); (all_goals (intro h; dsimp only [upd])))))
    refine run_os wt rfl (opr_call rfl (LD) rfl (by exact pca)) ?_
    rintro _ _ ⟨_, ⟨qa, ca', rfl, rfl⟩, rfl⟩
    dsimp only [List.cons_append, List.nil_append]
    (repeat' (first | (first | (apply run_qg 1; (focus rfl); (focus exact wt); (focus rfl); (focus (exact qg1))) | (apply run_qg 2; (focus rfl); (focus exact wt); (focus rfl); (focus (exact qg2))) | (apply run_qg 3; (focus rfl); (focus exact wt); (focus rfl); (focus (exact qg3))) | (apply run_qg 4; (focus rfl); (focus exact wt); (focus rfl); (focus (exact qg4))) | (apply run_qg 5; (focus rfl); (focus exact wt); (focus rfl); (focus (exact qg5))) | (apply run_qg 6; (focus rfl); (focus exact wt); (focus rfl); (focus (exact qg6))) | refine cod_seq ?_ | refine cod_region ?_ | refine run_nil ?_ | refine pst_then ?_ | (apply cod_cond_t; (focus rfl)) | (apply cod_cond_f; (focus rfl)) | refine cod_block ?_ | refine cod_exit ?_ | refine cod_ret ?_ | refine cod_skip ?_ | refine pst_block_here ?_ | refine pst_block_out rfl ?_ | refine pst_block_ret ?_ | refine pst_then_exit ?_ | refine pst_then_ret ?_ | refine pst_block ?_ | (apply run_osg 8; (focus rfl); (focus exact wt); (focus rfl); (focus (exact opr_box_agg rfl rfl)); (rintro _ _ ⟨b, rfl, rfl⟩)) | (apply run_osg 8; (focus rfl); (focus exact wt); (focus rfl); (focus (exact opr_box_one rfl rfl rfl)); (rintro _ _ ⟨b, rfl, rfl⟩)) | (apply run_osg 8; (focus rfl); (focus exact wt); (focus rfl); (focus (exact opr_new rfl)); (rintro _ _ ⟨b, rfl, rfl⟩)) | (apply run_ong 9; (focus rfl); (focus exact wt); (focus (exact opr_store_box_agg rfl rfl rfl (by exact pka) rfl rfl rfl (by exact spla))); (rintro _ _ ⟨rfl, rfl⟩)) | (apply run_ong 9; (focus rfl); (focus exact wt); (focus (exact opr_store_box_one rfl rfl rfl rfl (by exact pka) rfl (by exact seta))); (rintro _ _ ⟨rfl, rfl⟩)) | (apply run_osg 10; (focus rfl); (focus exact wt); (focus rfl); (focus (exact opr_buildSlice rfl rfl rfl (by exact blda) rfl rfl (by decide) rfl)); (rintro _ _ ⟨q, rfl, rfl⟩)) | (apply run_offs; (focus rfl); (focus rfl); (focus rfl)) | (apply run_offn; (focus rfl); (focus rfl))) | ((first | (apply run_lss; (rotate_left 2); (focus rfl)) | (apply run_leq; (rotate_left 2); (focus rfl)) | (apply run_gtr; (rotate_left 2); (focus rfl)) | (apply run_geq; (rotate_left 2); (focus rfl)) | (apply run_eql; (rotate_left 2); (focus rfl)) | (apply run_neq; (rotate_left 2); (focus rfl)) | (apply run_seq; (rotate_left 2); (focus rfl)) | (apply run_sneq; (rotate_left 2); (focus rfl))); (focus rfl); (focus rfl); (rotate_right 2); (focus exact wt); (focus rfl); (all_goals (intro h; dsimp only [upd])))))
    rw [← hll]
    exact pst_fin rfl (by exact resa) _ (.inr ⟨h0, _, _, rfl, rfl⟩) (by exact hsa)
  · (refine spec_enter Try.func15 Try.ntmps15 rfl rfl fun Fr => ?_; dsimp only [List.cons_append, List.nil_append, ini, Nat.reduceAdd])
    (repeat' (first | (first | (apply run_qg 1; (focus rfl); (focus exact wt); (focus rfl); (focus (exact qg1))) | (apply run_qg 2; (focus rfl); (focus exact wt); (focus rfl); (focus (exact qg2))) | (apply run_qg 3; (focus rfl); (focus exact wt); (focus rfl); (focus (exact qg3))) | (apply run_qg 4; (focus rfl); (focus exact wt); (focus rfl); (focus (exact qg4))) | (apply run_qg 5; (focus rfl); (focus exact wt); (focus rfl); (focus (exact qg5))) | (apply run_qg 6; (focus rfl); (focus exact wt); (focus rfl); (focus (exact qg6))) | refine cod_seq ?_ | refine cod_region ?_ | refine run_nil ?_ | refine pst_then ?_ | (apply cod_cond_t; (focus rfl)) | (apply cod_cond_f; (focus rfl)) | refine cod_block ?_ | refine cod_exit ?_ | refine cod_ret ?_ | refine cod_skip ?_ | refine pst_block_here ?_ | refine pst_block_out rfl ?_ | refine pst_block_ret ?_ | refine pst_then_exit ?_ | refine pst_then_ret ?_ | refine pst_block ?_ | (apply run_osg 8; (focus rfl); (focus exact wt); (focus rfl); (focus (exact opr_box_agg rfl rfl)); (rintro _ _ ⟨b, rfl, rfl⟩)) | (apply run_osg 8; (focus rfl); (focus exact wt); (focus rfl); (focus (exact opr_box_one rfl rfl rfl)); (rintro _ _ ⟨b, rfl, rfl⟩)) | (apply run_osg 8; (focus rfl); (focus exact wt); (focus rfl); (focus (exact opr_new rfl)); (rintro _ _ ⟨b, rfl, rfl⟩)) | (apply run_ong 9; (focus rfl); (focus exact wt); (focus (exact opr_store_box_agg rfl rfl rfl (by exact pka) rfl rfl rfl (by exact spla))); (rintro _ _ ⟨rfl, rfl⟩)) | (apply run_ong 9; (focus rfl); (focus exact wt); (focus (exact opr_store_box_one rfl rfl rfl rfl (by exact pka) rfl (by exact seta))); (rintro _ _ ⟨rfl, rfl⟩)) | (apply run_osg 10; (focus rfl); (focus exact wt); (focus rfl); (focus (exact opr_buildSlice rfl rfl rfl (by exact blda) rfl rfl (by decide) rfl)); (rintro _ _ ⟨q, rfl, rfl⟩)) | (apply run_offs; (focus rfl); (focus rfl); (focus rfl)) | (apply run_offn; (focus rfl); (focus rfl))) | (apply run_osg 7; (focus rfl); (focus exact wt); (focus rfl); (focus (first | exact opr_call_ls (by rfl) (CK ..) (by rfl) (by exact lpa) | exact opr_call_s (by rfl) (CK ..) (by rfl) (by exact pca))); (rintro _ _ ⟨rfl, rfl⟩)) | ((first | (apply run_lss; (rotate_left 2); (focus rfl)) | (apply run_leq; (rotate_left 2); (focus rfl)) | (apply run_gtr; (rotate_left 2); (focus rfl)) | (apply run_geq; (rotate_left 2); (focus rfl)) | (apply run_eql; (rotate_left 2); (focus rfl)) | (apply run_neq; (rotate_left 2); (focus rfl)) | (apply run_seq; (rotate_left 2); (focus rfl)) | (apply run_sneq; (rotate_left 2); (focus rfl))); (focus rfl); (focus rfl); (rotate_right 2); (focus exact wt); (focus rfl); (all_goals (intro h; dsimp only [upd])))))
    exact pst_fin rfl (by exact resa) _ (.inl ⟨h0, rfl, rfl⟩) (by exact hsa)
theorem now_cons {cs : List ByteArray} {ps : List (Int × ByteArray)} {p : Int × ByteArray} {k : Nat} (h0 : 0 ≤ p.1) (h1 : p.1 < cs.length) : nowD cs (p :: ps) k = nowD (cs.set p.1.toNat p.2) ps k := by
  obtain ⟨i, hi⟩ : ∃ i : Nat, p.1 = (i : Int) := ⟨p.1.toNat, by omega⟩
  obtain ⟨a, t⟩ := p
  simp only at hi h0 h1
  subst hi
  unfold nowD
  simp only [List.reverse_cons, List.find?_append, Int.toNat_natCast]
  cases ps.reverse.find? (fun p => p.1 == (k : Int)) with
  | some q => simp
  | none =>
    simp only [Option.none_or]
    by_cases e : i = k
    · subst e
      have : i < cs.length := by omega
      simp [List.find?, this]
    · have e2 : ((i : Int) == (k : Int)) = false := by simp; omega
      simp [List.find?, e2, e]
theorem now_land {ps : List (Int × ByteArray)} {k : Nat} : ∀ (i : Nat) (cs : List ByteArray), (∀ p ∈ ps, 0 ≤ p.1 ∧ p.1 < cs.length) → nowD (land (fun _ => true) i cs ps) [] k = nowD cs ps k := by
  induction ps with
  | nil => intro i cs _; rfl
  | cons p ps ih =>
    intro i cs h
    have hp := h p List.mem_cons_self
    rw [now_cons hp.1 hp.2]
    simp only [land, if_true]
    exact ih (i + 1) _ fun q hq => by rw [List.length_set]; exact h q (List.mem_cons_of_mem _ hq)
theorem now_put {cs : List ByteArray} {ps : List (Int × ByteArray)} {a b : Int} {t : ByteArray} : nowD cs (ps ++ [(a, t)]) b = if a = b then t else nowD cs ps b := by
  unfold nowD
  simp only [List.reverse_append, List.reverse_cons, List.reverse_nil, List.nil_append, List.cons_append, List.find?_cons]
  by_cases e : a = b
  · simp [e]
  · have e2 : (a == b) = false := by simp [e]
    simp [e, e2]
end Go.Proofs.Ytcaefeooneomnaa.disk
/-
  linenref.Cell, where every write is kept: the walk.
-/
namespace Go.Proofs.Ytcaefeooneomnaa.ref
open Go.RowKit kit sl Go.Proofs.Ytcaefeooneomnaa.disk
set_option linter.unusedVariables false
theorem opr_callv_ls {P : Program} {n : Nat} {F : Frm} {H : List Ent} {o : Oper} {f : FuncId} [hc : Cal P f] {x : Operand} {args : List Operand} {ts : Array TypeId} {vs : List Value} {u : Value} (ho : o.op = .call { callee := .value x, args := args.toArray, argTypes := ts }) (hx : ev F x = some (.func (.func f) #[] #[])) (hv : evl F args = some vs) (hs : Ct P f vs [] fun v H' => v = u ∧ H' = []) : Opr P n o F H fun v H' => v = u ∧ H' = H := fun Q a w next ha hw hn => by
  have hs' : Ct P f ([] ++ vs ++ []) [] fun v H' => v = u ∧ H' = [] := by simpa using hs
  exact opr_callv (first := []) (cap := []) ho hx hv hs' (Picks.nil (List.Sublist.refl _)) Q a w next ha hw fun v H' w' ⟨H1, ⟨h1, h2⟩, h3⟩ hw' => hn v H' w' ⟨h1, by rw [h3, h2]; rfl⟩ hw'
/-- what is read of a cell, all writes landed -/
def cellR : ByteArray → List (Int × ByteArray) → Int → ByteArray
  | o, [], _ => o
  | o, p :: ps, a => cellR (if p.1 = a then p.2 else o) ps a
theorem cellR_take {ps : List (Int × ByteArray)} {k : Nat} {p : Int × ByteArray} (hp : ps[k]? = some p) : ∀ o a, cellR o (ps.take (k + 1)) a = if p.1 = a then p.2 else cellR o (ps.take k) a := by
  induction ps generalizing k with
  | nil => simp at hp
  | cons q ps ih =>
    intro o a
    cases k with
    | zero =>
      simp at hp
      subst hp
      simp [cellR]
    | succ k =>
      simp only [List.take_succ_cons, cellR]
      exact ih (by simpa using hp) _ _
theorem cellR_find : ∀ (ps : List (Int × ByteArray)) (o : ByteArray) (a : Int), cellR o ps a = match ps.reverse.find? (fun p => p.1 == a) with | some p => p.2 | none => o
  | [], o, a => rfl
  | p :: ps, o, a => by
    rw [cellR, cellR_find ps, List.reverse_cons, List.find?_append]
    cases ps.reverse.find? (fun p => p.1 == a) with
    | some q => rfl
    | none =>
      by_cases h : p.1 = a
      · simp [h]
      · simp [h]
theorem cellR_now {cs : List ByteArray} {ps : List (Int × ByteArray)} {i : Nat} {s : ByteArray} (hs : cs[i]? = some s) : cellR s ps (i : Int) = nowD cs ps (i : Int) := by
  rw [cellR_find]
  unfold nowD
  cases ps.reverse.find? (fun p => p.1 == (i : Int)) with
  | some q => rfl
  | none =>
    show s = cs.getD ((i : Int)).toNat ⟨#[]⟩
    rw [Int.toNat_natCast, List.getD_eq_getElem?_getD, hs]
    rfl
attribute [local irreducible] box own sl old bptr eptr Qt Opr Run Cod Pst Drn
set_option maxRecDepth 100000 in
set_option maxHeartbeats 8000000 in
theorem every_any (i : Int) : Ct Try.prog 60 [.int .i64 i] [] fun v H' => v = .bool true ∧ H' = [] := by
  (refine spec_enter Try.func60 Try.ntmps60 rfl rfl fun Fr => ?_; dsimp only [List.cons_append, List.nil_append, ini, Nat.reduceAdd])
  (repeat' (first | (apply run_qg 1; (focus rfl); (focus exact wt); (focus rfl); (focus (exact qg1))) | refine cod_seq ?_ | refine cod_region ?_ | refine run_nil ?_ | refine pst_then ?_ | refine cod_ret ?_))
  exact pst_fin rfl (by exact resa) _ (⟨rfl, rfl⟩) (by exact hsa)
set_option maxRecDepth 100000 in
set_option maxHeartbeats 8000000 in
theorem cell_any (a w : Option Addr) (ca cw : Nat) (cs : List ByteArray) (ps : List (Int × ByteArray)) (i : Nat) (s : ByteArray) (hs : cs[i]? = some s) (hp : ps.length ≤ maxLen) :
    Ct Try.prog 59 [.agg #[.slice a cs.length ca, .slice w ps.length cw], .int .i64 (i : Int), .func (.func 60) #[] #[]] [sl 1 (.slice a cs.length ca) (cs.map fS), sl 2 (.slice w ps.length cw) (ps.map fP)] fun v H' => v = .string (cellR s ps (i : Int)) ∧ H' = [] := by
  unfold maxLen at hp
  have hi : i < cs.length := (List.getElem?_eq_some_iff.1 hs).1
  (refine spec_enter Try.func59 Try.ntmps59 rfl rfl fun Fr => ?_; dsimp only [List.cons_append, List.nil_append, ini, Nat.reduceAdd])
  (repeat' (first | (apply run_qg 1; (focus rfl); (focus exact wt); (focus rfl); (focus (exact qg1))) | (apply run_qg 2; (focus rfl); (focus exact wt); (focus rfl); (focus (first | exact qg2 | exact qs2))) | (apply run_qg 3; (focus rfl); (focus exact wt); (focus rfl); (focus (first | exact qg3 | exact qs3))) | (apply run_qg 6; (focus rfl); (focus exact wt); (focus rfl); (focus (first | exact qs6 | exact qg6 | exact q_max rfl rfl rfl | exact q_sliceData rfl rfl (by omega) | exact q_sliceDataN rfl rfl | exact q_unsafeStringN rfl rfl rfl | exact q_cap_slice rfl rfl))) | refine cod_seq ?_ | refine cod_region ?_ | refine run_nil ?_ | refine pst_then ?_ | refine cod_block ?_ | (apply run_osg 8; (focus rfl); (focus exact wt); (focus rfl); (focus (exact opr_box_agg rfl rfl)); (rintro _ _ ⟨b, rfl, rfl⟩))))
  (refine cod_loop_ro (σ := Nat × ByteArray) (fun k => k.1 ≤ ps.length ∧ k.2 = cellR s (ps.take k.1) (i : Int)) (fun k => [(18, .int .i64 (k.1 : Int)), (7, .string k.2)]) (fun k => ps.length - k.1) ((0, s)) (by exact ⟨Nat.zero_le _, rfl⟩) (by exact fsa) (fun ⟨k, o⟩ ⟨hk, ho⟩ => ?_); dsimp only [List.cons_append, List.nil_append])
  dsimp only at hk ho
  rcases get_or ps k with ⟨p, hpk, hlt⟩ | hge
  · have hT := cellR_take hpk s (i : Int)
    rw [← ho] at hT
    obtain ⟨p1, t⟩ := p
    dsimp only at hT
    by_cases h1 : p1 = (i : Int)
    · rw [if_pos h1] at hT
      (repeat' (first | (apply run_qg 1; (focus rfl); (focus exact wt); (focus rfl); (focus (exact qg1))) | (apply run_qg 2; (focus rfl); (focus exact wt); (focus rfl); (focus (first | exact qg2 | exact qs2))) | (apply run_qg 3; (focus rfl); (focus exact wt); (focus rfl); (focus (first | exact qg3 | exact qs3))) | (apply run_qg 4; (focus rfl); (focus exact wt); (focus rfl); (focus (first | exact qg4 | exact qs4))) | refine cod_seq ?_ | refine cod_region ?_ | refine run_nil ?_ | refine pst_then ?_ | (apply cod_cond_t; (focus rfl)) | refine cod_block ?_ | refine cod_skip ?_ | (apply run_osg 8; (focus rfl); (focus exact wt); (focus rfl); (focus (exact opr_new rfl)); (rintro _ _ ⟨b, rfl, rfl⟩)) | (apply run_ong 9; (focus rfl); (focus exact wt); (focus (exact opr_store_box_agg rfl rfl rfl (by exact pka) rfl rfl rfl (by exact spla))); (rintro _ _ ⟨rfl, rfl⟩))))
      (refine run_os wt (by rfl) (opr_callv_ls rfl rfl rfl (every_any _)) ?_; rintro _ _ ⟨rfl, rfl⟩)
      (repeat' (first | (apply run_qg 1; (focus rfl); (focus exact wt); (focus rfl); (focus (exact qg1))) | (apply run_qg 2; (focus rfl); (focus exact wt); (focus rfl); (focus (first | exact qg2 | exact qs2))) | (apply run_qg 3; (focus rfl); (focus exact wt); (focus rfl); (focus (first | exact qg3 | exact qs3))) | (apply run_qg 4; (focus rfl); (focus exact wt); (focus rfl); (focus (first | exact qg4 | exact qs4))) | refine cod_region ?_ | refine run_nil ?_ | refine pst_then ?_ | (apply cod_cond_t; (focus rfl)) | refine pst_block ?_))
      refine pst_again ((k + 1, t)) ?_ (FSub.of (by (try dsimp only); exact fsa)) (by (try dsimp only); exact hsa) ?_
      · exact ⟨hlt, hT.symm⟩
      · show ps.length - (k + 1) < ps.length - k
        omega
    · rw [if_neg h1] at hT
      (repeat' (first | (apply run_qg 1; (focus rfl); (focus exact wt); (focus rfl); (focus (exact qg1))) | (apply run_qg 2; (focus rfl); (focus exact wt); (focus rfl); (focus (first | exact qg2 | exact qs2))) | (apply run_qg 3; (focus rfl); (focus exact wt); (focus rfl); (focus (first | exact qg3 | exact qs3))) | (apply run_qg 4; (focus rfl); (focus exact wt); (focus rfl); (focus (first | exact qg4 | exact qs4))) | refine cod_seq ?_ | refine cod_region ?_ | refine run_nil ?_ | refine pst_then ?_ | (apply cod_cond_t; (focus rfl)) | (apply cod_cond_f; (focus rfl)) | refine cod_block ?_ | refine cod_skip ?_ | refine pst_block ?_ | (apply run_osg 8; (focus rfl); (focus exact wt); (focus rfl); (focus (exact opr_new rfl)); (rintro _ _ ⟨b, rfl, rfl⟩)) | (apply run_ong 9; (focus rfl); (focus exact wt); (focus (exact opr_store_box_agg rfl rfl rfl (by exact pka) rfl rfl rfl (by exact spla))); (rintro _ _ ⟨rfl, rfl⟩)) | (apply run_offs; (focus rfl); (focus rfl); (focus rfl))))
      refine pst_again ((k + 1, o)) ?_ (FSub.of (by (try dsimp only); exact fsa)) (by (try dsimp only); exact hsa) ?_
      · exact ⟨hlt, hT.symm⟩
      · show ps.length - (k + 1) < ps.length - k
        omega
  · rw [List.take_of_length_le hge] at ho
    subst ho
    (repeat' (first | (apply run_qg 1; (focus rfl); (focus exact wt); (focus rfl); (focus (exact qg1))) | (apply run_qg 4; (focus rfl); (focus exact wt); (focus rfl); (focus (first | exact qg4 | exact qs4))) | refine cod_seq ?_ | refine cod_region ?_ | refine run_nil ?_ | refine pst_then ?_ | (apply cod_cond_f; (focus rfl)) | refine cod_exit ?_ | refine cod_ret ?_ | refine pst_block_here ?_ | refine pst_then_exit ?_))
    exact pst_fin rfl (by exact resa) _ (⟨rfl, rfl⟩) (by exact hsa)
end Go.Proofs.Ytcaefeooneomnaa.ref
/-
  linenref.LogCell, linenkeep.twice: the walks.
-/
namespace Go.Proofs.Ytcaefeooneomnaa.use
open Go.RowKit kit sl Go.Proofs.Ytcaefeooneomnaa.seal Go.Proofs.Ytcaefeooneomnaa.disk Go.Proofs.Ytcaefeooneomnaa.blob Go.Proofs.Ytcaefeooneomnaa.lawScanFront
set_option linter.unusedVariables false
theorem unblob_some {L : List UInt8} {zs : List Blob} (hL : L.length ≤ 1000000000000000) (h : readO L = some zs) : Ct Try.prog 61 [.string (str L)] [] fun v H' => ∃ q c, v = .tuple #[.slice q zs.length c, .bool ((L.getD 0 0).toNat == 1), .int .i64 0] ∧ H' = [own (.slice q zs.length c) 28 4 zs.length (flat fBl zs)] :=
  ct_mono (unblob_any L hL) fun v H' h2 => by
    rcases h2 with ⟨zs', q, c, e, h3, h4⟩ | ⟨e, _⟩
    · rw [h] at e; cases e; exact ⟨q, c, h3, h4⟩
    · rw [h] at e; cases e
theorem unblob_none {L : List UInt8} (hL : L.length ≤ 1000000000000000) (h : readO L = none) : Ct Try.prog 61 [.string (str L)] [] fun v H' => v = .tuple #[.slice none 0 0, .bool false, .int .i64 4] ∧ H' = [] :=
  ct_mono (unblob_any L hL) fun v H' h2 => by
    rcases h2 with ⟨zs', q, c, e, _⟩ | ⟨_, h3⟩
    · rw [h] at e; cases e
    · exact h3
attribute [local irreducible] box own sl old bptr eptr Qt Opr Run Cod Pst Drn
set_option maxRecDepth 100000 in
set_option maxHeartbeats 8000000 in
theorem doclog_any (a w : Option Addr) (ca cw : Nat) (cs : Cells) (ps : Waits) (k : Nat) (h2 : 2 ≤ k) (hk : k < cs.length) (hg : disk.Good cs ps) :
    Ct Try.prog 34 [.agg #[.slice a cs.length ca, .slice w ps.length cw], .int .i64 (k : Int)] [sl 1 (.slice a cs.length ca) (cs.map fS), sl 2 (.slice w ps.length cw) (ps.map fP)] (CellR cs ps k) := by
  have hw := hg.wait
  have hn1 := hg.n1
  obtain ⟨s, hs⟩ : ∃ s, cs[k]? = some s := ⟨_, List.getElem?_eq_getElem hk⟩
  have N0 := Go.Proofs.Ytcaefeooneomnaa.ref.cell_any a w ca cw cs ps k s hs (by unfold maxLen; omega)
  rw [Go.Proofs.Ytcaefeooneomnaa.ref.cellR_now hs] at N0
  have hb := now_bd hg (k : Int)
  rw [now_str] at N0 hb
  rw [str_size] at hb
  obtain ⟨l, hl⟩ : ∃ l, nowL cs ps k = l := ⟨_, rfl⟩
  rw [hl] at N0 hb
  have O0 := docopen_eq l (by omega)
  have hob : (openB l).length ≤ 1024 := by unfold openB cutB; rw [List.length_take, List.length_drop]; omega
  by_cases hE : openE l = 0
  · rw [openV_ok hE] at O0
    by_cases hK : openK l = 1
    · cases hr : readO (openB l) with
      | some zs =>
        have R0 := unblob_some (by omega) hr
        have hlog : logF cs ps k = some (openN l, zs, ((openB l).getD 0 0).toNat == 1) := by unfold logF; rw [hl, if_pos ⟨hE, hK⟩, hr]; rfl
        rw [hK] at O0
        unfold CellR
        rw [hlog]
        generalize (((openB l).getD 0 0).toNat == 1) = bb at *
        generalize openN l = nn at *
        generalize openB l = bl at *
        clear hE hK
        (refine spec_enter Try.func34 Try.ntmps34 rfl rfl fun Fr => ?_; dsimp only [List.cons_append, List.nil_append, ini, Nat.reduceAdd])
        (repeat' (first | (apply run_qg 1; (focus rfl); (focus exact wt); (focus rfl); (focus (exact qg1))) | (apply run_qg 2; (focus rfl); (focus exact wt); (focus rfl); (focus (first | exact qg2 | exact qs2))) | (apply run_qg 3; (focus rfl); (focus exact wt); (focus rfl); (focus (first | exact qg3 | exact qs3))) | (apply run_qg 4; (focus rfl); (focus exact wt); (focus rfl); (focus (first | exact qg4 | exact qs4))) | (apply run_qg 6; (focus rfl); (focus exact wt); (focus rfl); (focus (first | exact qs6 | exact qg6 | exact q_max rfl rfl rfl | exact q_sliceData rfl rfl (by omega) | exact q_sliceDataN rfl rfl | exact q_unsafeStringN rfl rfl rfl | exact q_cap_slice rfl rfl))) | refine cod_seq ?_ | refine cod_region ?_ | refine run_nil ?_ | refine pst_then ?_ | (apply cod_cond_f; (focus rfl)) | refine cod_skip ?_ | (apply run_osg 8; (focus rfl); (focus exact wt); (focus rfl); (focus (exact opr_box_agg rfl rfl)); (rintro _ _ ⟨b, rfl, rfl⟩)) | (apply run_osg 7; (focus rfl); (focus exact wt); (focus rfl); (focus (exact opr_call_ls (by rfl) (N0 ..) (by rfl) lpa)); (rintro _ _ ⟨rfl, rfl⟩)) | (apply run_osg 7; (focus rfl); (focus exact wt); (focus rfl); (focus (exact opr_call_ls (by rfl) (O0 ..) (by rfl) lpa)); (rintro _ _ ⟨rfl, rfl⟩))))
        (refine run_os wt rfl (opr_call_l rfl (R0) rfl (by exact lpa)) ?_; rintro _ _ ⟨_, ⟨q, c, rfl, rfl⟩, rfl⟩; dsimp only [List.cons_append, List.nil_append])
        (repeat' (first | (apply run_qg 1; (focus rfl); (focus exact wt); (focus rfl); (focus (exact qg1))) | (apply run_qg 4; (focus rfl); (focus exact wt); (focus rfl); (focus (first | exact qg4 | exact qs4))) | refine cod_seq ?_ | refine cod_region ?_ | refine run_nil ?_ | refine pst_then ?_ | refine cod_ret ?_))
        exact pst_fin rfl (by exact resa) _ (.inl ⟨_, _, _, q, c, rfl, rfl, rfl⟩) (by exact hsa)
      | none =>
        have R0 := unblob_none (by omega) hr
        have hlog : logF cs ps k = none := by unfold logF; rw [hl, if_pos ⟨hE, hK⟩, hr]; rfl
        rw [hK] at O0
        unfold CellR
        rw [hlog]
        generalize openN l = nn at *
        generalize openB l = bl at *
        clear hE hK
        (refine spec_enter Try.func34 Try.ntmps34 rfl rfl fun Fr => ?_; dsimp only [List.cons_append, List.nil_append, ini, Nat.reduceAdd])
        (repeat' (first | (apply run_qg 1; (focus rfl); (focus exact wt); (focus rfl); (focus (exact qg1))) | (apply run_qg 2; (focus rfl); (focus exact wt); (focus rfl); (focus (first | exact qg2 | exact qs2))) | (apply run_qg 3; (focus rfl); (focus exact wt); (focus rfl); (focus (first | exact qg3 | exact qs3))) | (apply run_qg 4; (focus rfl); (focus exact wt); (focus rfl); (focus (first | exact qg4 | exact qs4))) | (apply run_qg 6; (focus rfl); (focus exact wt); (focus rfl); (focus (first | exact qs6 | exact qg6 | exact q_max rfl rfl rfl | exact q_sliceData rfl rfl (by omega) | exact q_sliceDataN rfl rfl | exact q_unsafeStringN rfl rfl rfl | exact q_cap_slice rfl rfl))) | refine cod_seq ?_ | refine cod_region ?_ | refine run_nil ?_ | refine pst_then ?_ | (apply cod_cond_f; (focus rfl)) | refine cod_ret ?_ | refine cod_skip ?_ | (apply run_osg 8; (focus rfl); (focus exact wt); (focus rfl); (focus (exact opr_box_agg rfl rfl)); (rintro _ _ ⟨b, rfl, rfl⟩)) | (apply run_osg 7; (focus rfl); (focus exact wt); (focus rfl); (focus (exact opr_call_ls (by rfl) (N0 ..) (by rfl) lpa)); (rintro _ _ ⟨rfl, rfl⟩)) | (apply run_osg 7; (focus rfl); (focus exact wt); (focus rfl); (focus (exact opr_call_ls (by rfl) (O0 ..) (by rfl) lpa)); (rintro _ _ ⟨rfl, rfl⟩)) | (apply run_osg 7; (focus rfl); (focus exact wt); (focus rfl); (focus (exact opr_call_ls (by rfl) (R0 ..) (by rfl) lpa)); (rintro _ _ ⟨rfl, rfl⟩))))
        exact pst_fin rfl (by exact resa) _ (.inr ⟨rfl, _, rfl, rfl⟩) (by exact hsa)
    · have hlog : logF cs ps k = none := by unfold logF; rw [hl, if_neg (fun h => hK h.2)]
      unfold CellR
      rw [hlog]
      generalize openN l = nn at *
      generalize openB l = bl at *
      generalize openK l = kk at *
      clear hE
      (refine spec_enter Try.func34 Try.ntmps34 rfl rfl fun Fr => ?_; dsimp only [List.cons_append, List.nil_append, ini, Nat.reduceAdd])
      (repeat' (first | (apply run_qg 1; (focus rfl); (focus exact wt); (focus rfl); (focus (exact qg1))) | (apply run_qg 2; (focus rfl); (focus exact wt); (focus rfl); (focus (first | exact qg2 | exact qs2))) | (apply run_qg 3; (focus rfl); (focus exact wt); (focus rfl); (focus (first | exact qg3 | exact qs3))) | (apply run_qg 4; (focus rfl); (focus exact wt); (focus rfl); (focus (first | exact qg4 | exact qs4))) | (apply run_qg 6; (focus rfl); (focus exact wt); (focus rfl); (focus (first | exact qs6 | exact qg6 | exact q_max rfl rfl rfl | exact q_sliceData rfl rfl (by omega) | exact q_sliceDataN rfl rfl | exact q_unsafeStringN rfl rfl rfl | exact q_cap_slice rfl rfl))) | refine cod_seq ?_ | refine cod_region ?_ | refine run_nil ?_ | refine pst_then ?_ | (apply cod_cond_t; (focus rfl)) | (apply cod_cond_f; (focus rfl)) | refine cod_ret ?_ | refine cod_skip ?_ | refine pst_then_ret ?_ | (apply run_osg 8; (focus rfl); (focus exact wt); (focus rfl); (focus (exact opr_box_agg rfl rfl)); (rintro _ _ ⟨b, rfl, rfl⟩)) | (apply run_osg 7; (focus rfl); (focus exact wt); (focus rfl); (focus (exact opr_call_ls (by rfl) (N0 ..) (by rfl) lpa)); (rintro _ _ ⟨rfl, rfl⟩)) | (apply run_osg 7; (focus rfl); (focus exact wt); (focus rfl); (focus (exact opr_call_ls (by rfl) (O0 ..) (by rfl) lpa)); (rintro _ _ ⟨rfl, rfl⟩))))
      exact pst_fin rfl (by exact resa) _ (.inr ⟨rfl, _, rfl, rfl⟩) (by exact hsa)
  · rw [openV_no hE] at O0
    have hlog : logF cs ps k = none := by unfold logF; rw [hl, if_neg (fun h => hE h.1)]
    unfold CellR
    rw [hlog]
    generalize openE l = ee at *
    (refine spec_enter Try.func34 Try.ntmps34 rfl rfl fun Fr => ?_; dsimp only [List.cons_append, List.nil_append, ini, Nat.reduceAdd])
    (repeat' (first | (apply run_qg 1; (focus rfl); (focus exact wt); (focus rfl); (focus (exact qg1))) | (apply run_qg 2; (focus rfl); (focus exact wt); (focus rfl); (focus (first | exact qg2 | exact qs2))) | (apply run_qg 3; (focus rfl); (focus exact wt); (focus rfl); (focus (first | exact qg3 | exact qs3))) | (apply run_qg 4; (focus rfl); (focus exact wt); (focus rfl); (focus (first | exact qg4 | exact qs4))) | (apply run_qg 6; (focus rfl); (focus exact wt); (focus rfl); (focus (first | exact qs6 | exact qg6 | exact q_max rfl rfl rfl | exact q_sliceData rfl rfl (by omega) | exact q_sliceDataN rfl rfl | exact q_unsafeStringN rfl rfl rfl | exact q_cap_slice rfl rfl))) | refine cod_seq ?_ | refine cod_region ?_ | refine run_nil ?_ | refine pst_then ?_ | (apply cod_cond_t; (focus rfl)) | (apply cod_cond_f; (focus rfl)) | refine cod_ret ?_ | refine cod_skip ?_ | refine pst_then_ret ?_ | (apply run_osg 8; (focus rfl); (focus exact wt); (focus rfl); (focus (exact opr_box_agg rfl rfl)); (rintro _ _ ⟨b, rfl, rfl⟩)) | (apply run_offs; (focus rfl); (focus rfl); (focus rfl)) | (apply run_osg 7; (focus rfl); (focus exact wt); (focus rfl); (focus (exact opr_call_ls (by rfl) (N0 ..) (by rfl) lpa)); (rintro _ _ ⟨rfl, rfl⟩)) | (apply run_osg 7; (focus rfl); (focus exact wt); (focus rfl); (focus (exact opr_call_ls (by rfl) (O0 ..) (by rfl) lpa)); (rintro _ _ ⟨rfl, rfl⟩))))
    exact pst_fin rfl (by exact resa) _ (.inr ⟨rfl, _, rfl, rfl⟩) (by exact hsa)
set_option maxRecDepth 100000 in
set_option maxHeartbeats 8000000 in
theorem doclog_two (a w : Option Addr) (ca cw : Nat) (n m : Nat) (cs : Cells) (ps : Waits) (k : Nat) (h2 : k < 2) :
    Ct Try.prog 34 [.agg #[.slice a n ca, .slice w m cw], .int .i64 (k : Int)] [sl 1 (.slice a n ca) (cs.map fS), sl 2 (.slice w m cw) (ps.map fP)] fun v H' => v = .tuple #[.int .i64 0, .slice none 0 0, .bool false, .bool false] ∧ H' = [] := by
  (refine spec_enter Try.func34 Try.ntmps34 rfl rfl fun Fr => ?_; dsimp only [List.cons_append, List.nil_append, ini, Nat.reduceAdd])
  (repeat' (first | (apply run_qg 1; (focus rfl); (focus exact wt); (focus rfl); (focus (exact qg1))) | (apply run_qg 4; (focus rfl); (focus exact wt); (focus rfl); (focus (first | exact qg4 | exact qs4))) | refine cod_seq ?_ | refine cod_region ?_ | refine run_nil ?_ | refine pst_then ?_ | (apply cod_cond_t; (focus rfl)) | refine cod_ret ?_ | refine pst_then_ret ?_ | (apply run_osg 8; (focus rfl); (focus exact wt); (focus rfl); (focus (exact opr_box_agg rfl rfl)); (rintro _ _ ⟨b, rfl, rfl⟩)) | (apply run_offs; (focus rfl); (focus rfl); (focus rfl))))
  exact pst_fin rfl (by exact resa) _ (⟨rfl, rfl⟩) (by exact hsa)
theorem doclog_some {a w : Option Addr} {ca cw : Nat} {cs : Cells} {ps : Waits} {k : Nat} {n : Int} {zs : List Blob} {b : Bool} (h2 : 2 ≤ k) (hk : k < cs.length) (hg : disk.Good cs ps) (h : logF cs ps k = some (n, zs, b)) :
    Ct Try.prog 34 [.agg #[.slice a cs.length ca, .slice w ps.length cw], .int .i64 (k : Int)] [sl 1 (.slice a cs.length ca) (cs.map fS), sl 2 (.slice w ps.length cw) (ps.map fP)] fun v H' => ∃ q c, v = .tuple #[.int .i64 n, .slice q zs.length c, .bool b, .bool true] ∧ H' = [own (.slice q zs.length c) 28 4 zs.length (flat fBl zs)] :=
  ct_mono (doclog_any a w ca cw cs ps k h2 hk hg) fun v H' h2 => by
    rcases h2 with ⟨n', zs', b', q, c, e, h3, h4⟩ | ⟨e, _⟩
    · rw [h] at e; cases e; exact ⟨q, c, h3, h4⟩
    · rw [h] at e; cases e
theorem doclog_none {a w : Option Addr} {ca cw : Nat} {cs : Cells} {ps : Waits} {k : Nat} (h2 : 2 ≤ k) (hk : k < cs.length) (hg : disk.Good cs ps) (h : logF cs ps k = none) :
    Ct Try.prog 34 [.agg #[.slice a cs.length ca, .slice w ps.length cw], .int .i64 (k : Int)] [sl 1 (.slice a cs.length ca) (cs.map fS), sl 2 (.slice w ps.length cw) (ps.map fP)] fun v H' => ∃ n, v = .tuple #[.int .i64 n, .slice none 0 0, .bool false, .bool false] ∧ H' = [] :=
  ct_mono (doclog_any a w ca cw cs ps k h2 hk hg) fun v H' h2 => by
    rcases h2 with ⟨n', zs', b', q, c, e, _⟩ | ⟨_, n, h3, h4⟩
    · rw [h] at e; cases e
    · exact ⟨n, h3, h4⟩
/-- what is known of the cells ahead of i -/
def Upto (cs : Cells) (ps : Waits) (i : Nat) (seen : List Int) : Prop :=
  (∀ k, 2 ≤ k → k < i → ∀ t, logF cs ps k = some t → t.1 ∈ seen) ∧ ∀ k j, 2 ≤ k → k < i → 2 ≤ j → j < i → ∀ t u, logF cs ps k = some t → logF cs ps j = some u → t.1 = u.1 → k = j
theorem upto_zero (cs : Cells) (ps : Waits) : Upto cs ps 0 [] := ⟨fun k _ h => absurd h (Nat.not_lt_zero _), fun k j _ h => absurd h (Nat.not_lt_zero _)⟩
theorem upto_skip {cs : Cells} {ps : Waits} {i : Nat} {seen : List Int} (h : Upto cs ps i seen) (hn : i < 2 ∨ logF cs ps i = none) : Upto cs ps (i + 1) seen := by
  have no : ∀ k, 2 ≤ k → k < i + 1 → ∀ t, logF cs ps k = some t → k < i := fun k h2 h3 t ht => by
    rcases Nat.lt_or_ge k i with h4 | h4
    · exact h4
    · have : k = i := by omega
      subst this
      rcases hn with hn | hn
      · omega
      · rw [hn] at ht; cases ht
  exact ⟨fun k h2 h3 t ht => h.1 k h2 (no k h2 h3 t ht) t ht, fun k j h2 h3 h4 h5 t u ht hu e => h.2 k j h2 (no k h2 h3 t ht) h4 (no j h4 h5 u hu) t u ht hu e⟩
theorem upto_add {cs : Cells} {ps : Waits} {i : Nat} {seen : List Int} {n : Int} {r : List Blob × Bool} (h : Upto cs ps i seen) (hl : logF cs ps i = some (n, r)) (hn : n ∉ seen) : Upto cs ps (i + 1) (seen ++ [n]) := by
  refine ⟨fun k h2 h3 t ht => ?_, fun k j h2 h3 h4 h5 t u ht hu e => ?_⟩
  · rcases Nat.lt_or_ge k i with h6 | h6
    · exact List.mem_append_left _ (h.1 k h2 h6 t ht)
    · have : k = i := by omega
      subst this
      rw [hl] at ht
      cases ht
      simp
  · rcases Nat.lt_or_ge k i with h6 | h6 <;> rcases Nat.lt_or_ge j i with h7 | h7
    · exact h.2 k j h2 h6 h4 h7 t u ht hu e
    · have : j = i := by omega
      subst this
      rw [hl] at hu
      cases hu
      exact absurd (by have := h.1 k h2 h6 t ht; rw [e] at this; exact this) hn
    · have : k = i := by omega
      subst this
      rw [hl] at ht
      cases ht
      exact absurd (by have := h.1 j h4 h7 u hu; rw [← e] at this; exact this) hn
    · omega
theorem upto_all {cs : Cells} {ps : Waits} {seen : List Int} (h : Upto cs ps cs.length seen) : Distinct cs ps := fun i j h1 h2 h3 h4 t u ht hu e => h.2 i j h1 h2 h3 h4 t u ht hu e
def TwiceR (cs : Cells) (ps : Waits) (v : Value) (H' : List Ent) : Prop := ∃ b : Bool, (b = false → Distinct cs ps) ∧ v = .bool b ∧ H' = []
instance {cs : Cells} {ps : Waits} : Xcl (TwiceR cs ps) := by unfold TwiceR; infer_instance
theorem ix_lt {p : Int} {xs : List Int} (h : ¬ 0 ≤ sleq.ixOf p xs) : p ∉ xs := fun hm => h (sleq.ix_mem hm)
set_option maxRecDepth 100000 in
set_option maxHeartbeats 8000000 in
theorem twice_any (a w : Option Addr) (ca cw : Nat) (cs : Cells) (ps : Waits) (hg : disk.Good cs ps) :
    Ct Try.prog 13 [.agg #[.slice a cs.length ca, .slice w ps.length cw]] [sl 1 (.slice a cs.length ca) (cs.map fS), sl 2 (.slice w ps.length cw) (ps.map fP)] (TwiceR cs ps) := by
  have hn1 := hg.n1
  have hw := hg.wait
  have yes : TwiceR cs ps (.bool true) [] := ⟨true, fun h => absurd h (by decide), rfl, rfl⟩
  have fin : ∀ seen, Upto cs ps cs.length seen → TwiceR cs ps (.bool false) [] := fun seen h => ⟨false, fun _ => upto_all h, rfl, rfl⟩
  have h0 := upto_zero cs ps
  (refine spec_enter Try.func13 Try.ntmps13 rfl rfl fun Fr => ?_; dsimp only [List.cons_append, List.nil_append, ini, Nat.reduceAdd])
  (repeat' (first | (apply run_qg 1; (focus rfl); (focus exact wt); (focus rfl); (focus (exact qg1))) | (apply run_qg 2; (focus rfl); (focus exact wt); (focus rfl); (focus (first | exact qg2 | exact qs2))) | (apply run_qg 3; (focus rfl); (focus exact wt); (focus rfl); (focus (first | exact qg3 | exact qs3))) | (apply run_qg 6; (focus rfl); (focus exact wt); (focus rfl); (focus (first | exact qs6 | exact qg6 | exact q_max rfl rfl rfl | exact q_sliceData rfl rfl (by omega) | exact q_sliceDataN rfl rfl | exact q_unsafeStringN rfl rfl rfl | exact q_cap_slice rfl rfl))) | refine cod_seq ?_ | refine cod_region ?_ | refine run_nil ?_ | refine pst_then ?_ | refine cod_block ?_ | (apply run_osg 8; (focus rfl); (focus exact wt); (focus rfl); (focus (exact opr_box_agg rfl rfl)); (rintro _ _ ⟨b, rfl, rfl⟩))))
  refine cod_heap (heap_nil _ 3 1) ?_
  (refine cod_loop_rw (σ := Nat × List Int × Option Addr × Nat) (fun x => (x.1 ≤ cs.length ∧ x.2.1.length ≤ x.1) ∧ Upto cs ps x.1 x.2.1) (fun x => [(12, .int .i64 (x.1 : Int)), (3, .slice x.2.2.1 x.2.1.length x.2.2.2)]) (fun x => [own (.slice x.2.2.1 x.2.1.length x.2.2.2) 3 1 x.2.1.length (flat fI x.2.1)]) _ (fun x => cs.length - x.1) ((0, [], none, 0)) (by exact ⟨⟨Nat.zero_le _, Nat.le_refl _⟩, h0⟩) (by exact fsa) (by (first | exact HSub.of_picks_rest (by exact pca))) (fun ⟨i, seen, q, c⟩ ⟨⟨hi, hsl⟩, hU⟩ => ?_); dsimp only [List.cons_append, List.nil_append])
  dsimp only at hi hsl hU
  rcases Nat.lt_or_ge i cs.length with hlt | hge
  · rcases Nat.lt_or_ge i 2 with h2 | h2
    · have L0 := doclog_two a w ca cw cs.length ps.length cs ps i h2
      have hN := upto_skip hU (.inl h2)
      clear hU fin h0
      (repeat' (first | (apply run_qg 1; (focus rfl); (focus exact wt); (focus rfl); (focus (exact qg1))) | (apply run_qg 2; (focus rfl); (focus exact wt); (focus rfl); (focus (first | exact qg2 | exact qs2))) | (apply run_qg 4; (focus rfl); (focus exact wt); (focus rfl); (focus (first | exact qg4 | exact qs4))) | refine cod_seq ?_ | refine cod_region ?_ | refine run_nil ?_ | refine pst_then ?_ | (apply cod_cond_t; (focus rfl)) | (apply cod_cond_f; (focus rfl)) | refine cod_block ?_ | refine cod_skip ?_ | refine pst_block ?_ | (apply run_osg 7; (focus rfl); (focus exact wt); (focus rfl); (focus (exact opr_call_ls (by rfl) (L0 ..) (by rfl) lpa)); (rintro _ _ ⟨rfl, rfl⟩))))
      refine pst_again ((i + 1, seen, q, c)) ?_ (FSub.of (by (try dsimp only); exact fsa)) (by (try dsimp only); exact hsa) ?_
      · exact ⟨⟨by dsimp only; omega, by dsimp only; omega⟩, hN⟩
      · dsimp only; omega
    · cases hlog : logF cs ps i with
      | none =>
        have L0 := doclog_none (a := a) (w := w) (ca := ca) (cw := cw) h2 hlt hg hlog
        have hN := upto_skip hU (.inr hlog)
        clear hU fin h0 hlog
        (repeat' (first | (apply run_qg 1; (focus rfl); (focus exact wt); (focus rfl); (focus (exact qg1))) | (apply run_qg 2; (focus rfl); (focus exact wt); (focus rfl); (focus (first | exact qg2 | exact qs2))) | (apply run_qg 4; (focus rfl); (focus exact wt); (focus rfl); (focus (first | exact qg4 | exact qs4))) | refine cod_seq ?_ | refine cod_region ?_ | refine run_nil ?_ | refine pst_then ?_ | (apply cod_cond_t; (focus rfl)) | refine cod_block ?_ | refine cod_skip ?_))
        (refine run_os wt rfl (opr_call_l rfl (L0) rfl (by exact lpa)) ?_; rintro _ _ ⟨_, ⟨n, rfl, rfl⟩, rfl⟩; dsimp only [List.cons_append, List.nil_append])
        (repeat' (first | (apply run_qg 1; (focus rfl); (focus exact wt); (focus rfl); (focus (exact qg1))) | (apply run_qg 4; (focus rfl); (focus exact wt); (focus rfl); (focus (first | exact qg4 | exact qs4))) | refine cod_seq ?_ | refine cod_region ?_ | refine run_nil ?_ | refine pst_then ?_ | (apply cod_cond_f; (focus rfl)) | refine cod_skip ?_ | refine pst_block ?_))
        refine pst_again ((i + 1, seen, q, c)) ?_ (FSub.of (by (try dsimp only); exact fsa)) (by (try dsimp only); exact hsa) ?_
        · exact ⟨⟨by dsimp only; omega, by dsimp only; omega⟩, hN⟩
        · dsimp only; omega
      | some t =>
        obtain ⟨n, zs, b⟩ := t
        have L0 := doclog_some (a := a) (w := w) (ca := ca) (cw := cw) h2 hlt hg hlog
        by_cases hm : 0 ≤ sleq.ixOf n seen
        · have CN := ct_true (sleq.contains_I q c seen n (by unfold maxLen; omega)) hm
          clear hU fin h0 hlog
          (repeat' (first | (apply run_qg 1; (focus rfl); (focus exact wt); (focus rfl); (focus (exact qg1))) | (apply run_qg 2; (focus rfl); (focus exact wt); (focus rfl); (focus (first | exact qg2 | exact qs2))) | (apply run_qg 4; (focus rfl); (focus exact wt); (focus rfl); (focus (first | exact qg4 | exact qs4))) | refine cod_seq ?_ | refine cod_region ?_ | refine run_nil ?_ | refine pst_then ?_ | (apply cod_cond_t; (focus rfl)) | refine cod_block ?_ | refine cod_skip ?_))
          (refine run_os wt rfl (opr_call_l rfl (L0) rfl (by exact lpa)) ?_; rintro _ _ ⟨_, ⟨qz, cz, rfl, rfl⟩, rfl⟩; dsimp only [List.cons_append, List.nil_append])
          (repeat' (first | (apply run_qg 1; (focus rfl); (focus exact wt); (focus rfl); (focus (exact qg1))) | refine cod_seq ?_ | refine cod_region ?_ | refine run_nil ?_ | refine pst_then ?_ | (apply cod_cond_t; (focus rfl)) | refine cod_ret ?_ | refine pst_block_ret ?_ | refine pst_then_ret ?_ | (apply run_osg 7; (focus rfl); (focus exact wt); (focus rfl); (focus (exact opr_call_ls (by rfl) (CN ..) (by rfl) lpa)); (rintro _ _ ⟨rfl, rfl⟩))))
          exact pst_fin rfl (by exact resa) _ (yes) (by exact hsa)
        · have CN := ct_false (sleq.contains_I q c seen n (by unfold maxLen; omega)) hm
          have hN := upto_add hU hlog (ix_lt hm)
          clear hU fin h0 hlog
          (repeat' (first | (apply run_qg 1; (focus rfl); (focus exact wt); (focus rfl); (focus (exact qg1))) | (apply run_qg 2; (focus rfl); (focus exact wt); (focus rfl); (focus (first | exact qg2 | exact qs2))) | (apply run_qg 4; (focus rfl); (focus exact wt); (focus rfl); (focus (first | exact qg4 | exact qs4))) | refine cod_seq ?_ | refine cod_region ?_ | refine run_nil ?_ | refine pst_then ?_ | (apply cod_cond_t; (focus rfl)) | refine cod_block ?_ | refine cod_skip ?_))
          (refine run_os wt rfl (opr_call_l rfl (L0) rfl (by exact lpa)) ?_; rintro _ _ ⟨_, ⟨qz, cz, rfl, rfl⟩, rfl⟩; dsimp only [List.cons_append, List.nil_append])
          (repeat' (first | (apply run_qg 1; (focus rfl); (focus exact wt); (focus rfl); (focus (exact qg1))) | refine cod_seq ?_ | refine cod_region ?_ | refine run_nil ?_ | refine pst_then ?_ | (apply cod_cond_t; (focus rfl)) | (apply cod_cond_f; (focus rfl)) | refine cod_skip ?_ | (apply run_osg 10; (focus rfl); (focus exact wt); (focus rfl); (focus (exact opr_buildSlice rfl rfl rfl (by exact blda) rfl rfl (by decide) rfl)); (rintro _ _ ⟨q, rfl, rfl⟩)) | (apply run_osg 7; (focus rfl); (focus exact wt); (focus rfl); (focus (exact opr_call_ls (by rfl) (CN ..) (by rfl) lpa)); (rintro _ _ ⟨rfl, rfl⟩))))
          refine run_os wt rfl (by first | exact opr_append_lit0 (fI) [n] rfl rfl rfl (by exact pka) (by rfl) (by rfl) (by intro _; rfl) (by (first | exact one_fS | exact one_fI | exact one_fB | exact one_fP | exact one_fIIS | exact one_fIIIS | exact one_fII | exact one_fSI | exact one_fIIU | exact one_fY | exact one_fBl | exact one_fT | exact one_fE | assumption)) rfl (by simp only [List.length_cons, List.length_nil]; omega) (by (unfold maxLen); simp only [List.length_cons, List.length_nil]; omega) | exact opr_append_lit (fI) [n] rfl rfl rfl (by exact pka) (by exact pka) (by rfl) (by rfl) (by first | rfl | omega) (by intro _; rfl) (by (first | exact one_fS | exact one_fI | exact one_fB | exact one_fP | exact one_fIIS | exact one_fIIIS | exact one_fII | exact one_fSI | exact one_fIIU | exact one_fY | exact one_fBl | exact one_fT | exact one_fE | assumption)) rfl (by simp only [List.length_cons, List.length_nil]; omega) (by (unfold maxLen); simp only [List.length_cons, List.length_nil]; omega)) ?_
          rintro _ _ ⟨q5, c5, rfl, rfl⟩
          (repeat' (first | (apply run_qg 1; (focus rfl); (focus exact wt); (focus rfl); (focus (exact qg1))) | (apply run_qg 4; (focus rfl); (focus exact wt); (focus rfl); (focus (first | exact qg4 | exact qs4))) | refine cod_region ?_ | refine run_nil ?_ | refine pst_then ?_ | refine pst_block ?_))
          refine pst_again ((i + 1, seen ++ [n], q5, c5)) ?_ (FSub.of (by (try dsimp only); exact fsa)) (by (try dsimp only); exact hsa) ?_
          · exact ⟨⟨by dsimp only; omega, by dsimp only; rw [List.length_append, List.length_singleton]; omega⟩, hN⟩
          · dsimp only; omega
  · have hil : i = cs.length := by omega
    subst hil
    have R0 := fin seen hU
    (repeat' (first | (apply run_qg 1; (focus rfl); (focus exact wt); (focus rfl); (focus (exact qg1))) | (apply run_qg 4; (focus rfl); (focus exact wt); (focus rfl); (focus (first | exact qg4 | exact qs4))) | refine cod_seq ?_ | refine cod_region ?_ | refine run_nil ?_ | refine pst_then ?_ | (apply cod_cond_f; (focus rfl)) | refine cod_exit ?_ | refine cod_ret ?_ | refine pst_block_here ?_ | refine pst_then_exit ?_))
    exact pst_fin rfl (by exact resa) _ (R0) (by exact hsa)
end Go.Proofs.Ytcaefeooneomnaa.use
/-
  ScanFront: the walk.
-/
namespace Go.Proofs.Ytcaefeooneomnaa.lawScanFront
open Go.RowKit kit sl Go.Proofs.Ytcaefeooneomnaa.use Go.Proofs.Ytcaefeooneomnaa.blob Go.Proofs.Ytcaefeooneomnaa.seal Go.Proofs.Ytcaefeooneomnaa.disk Go.Proofs.Ytcaefeooneomnaa.within
set_option linter.unusedVariables false
/-- the front of one's own row, with some of its room -/
theorem view_room {S R : List Ent} {e sz m k c c' : Nat} {α : Type} {f : α → List Value} {ys : List α} {q : Option Addr} (p : Pick (own (.slice q m c) e sz m (flat f ys)) S R) (hf : ∀ y, (f y).length = sz) (hm : m = ys.length) (hk : k ≤ c') (hc : c' ≤ m) : View S (sl sz (.slice q k c') ((ys.take k).map f)) := by
  refine ⟨rfl, fun w hw => ?_, fun b hb => ⟨_, p.mem, by
    have h2 := hb.2
    cases q <;> exact h2⟩⟩
  · have h1 : SliceAt w sz (.slice q m c) (ys.map f) := own_sliceN hf hm (hw.1 _ p.mem)
    have hlen : ((ys.take k).map f).length = k := by simp; omega
    rcases h1 with ⟨h0, h2⟩ | ⟨b, off, cap, hv, h3, h4, h5, h6, h7⟩
    · have hy : ys = [] := by simpa using h0
      subst hy
      have hm0 : m = 0 := hm
      have hk0 : k = 0 := by omega
      have hc0 : c' = 0 := by omega
      subst hk0 hc0
      refine .inl ⟨rfl, ?_⟩
      rcases h2 with h2 | ⟨a, cap, h2⟩
      · cases h2; exact .inl rfl
      · cases h2; exact .inr ⟨_, _, rfl⟩
    · cases hv
      rw [List.length_map] at h3
      by_cases h0 : k = 0
      · subst h0
        exact .inl ⟨rfl, .inr ⟨_, _, rfl⟩⟩
      · refine .inr ⟨b, off, c', by rw [hlen], by omega, by omega, by omega, h6, fun i r hr => h7 i r ?_⟩
        rw [List.map_take, List.getElem?_take] at hr
        split at hr
        · exact hr
        · cases hr
attribute [local irreducible] box own sl old bptr eptr Qt Opr Run Cod Pst Drn
set_option maxRecDepth 100000 in
set_option maxHeartbeats 8000000 in
theorem clone_S (q : Option Addr) (c : Nat) (xs : List (ByteArray)) (hn : xs.length * 16 ≤ 140737488355328) :
    Ct Try.prog 14 [.slice q xs.length c] [sl 1 (.slice q xs.length c) (xs.map fS)] fun v H' => ∃ q' c', v = .slice q' xs.length c' ∧ H' = [own (.slice q' xs.length c') 9 1 xs.length (flat fS xs)] := by
  refine ct_sl_nil (fun hq hc hx => ?_) fun hq => ?_
  · subst hq
    subst hc
    have hx' : xs = [] := by simpa using hx
    subst hx'
    (refine spec_enter Try.func14 Try.ntmps14 rfl rfl fun Fr => ?_; dsimp only [List.cons_append, List.nil_append, ini, Nat.reduceAdd])
    (repeat' (first | (apply run_qg 1; (focus rfl); (focus exact wt); (focus rfl); (focus (exact qg1))) | refine cod_seq ?_ | refine cod_region ?_ | refine run_nil ?_ | refine pst_then ?_))
    refine run_qs wt (by rfl) (q_slice_isnil rfl rfl rfl) ?_
    (repeat' (first | (apply run_qg 1; (focus rfl); (focus exact wt); (focus rfl); (focus (exact qg1))) | refine cod_seq ?_ | refine cod_region ?_ | refine run_nil ?_ | refine pst_then ?_ | (apply cod_cond_t; (focus rfl)) | refine cod_ret ?_ | refine pst_then_ret ?_))
    refine pst_weak (FSub.refl _) (heap_nil _ 9 1) ?_
    exact pst_fin rfl (by exact resa) _ (⟨none, 0, rfl, rfl⟩) (by exact hsa)
  · obtain ⟨ad, rfl⟩ := hq
    (refine spec_enter Try.func14 Try.ntmps14 rfl rfl fun Fr => ?_; dsimp only [List.cons_append, List.nil_append, ini, Nat.reduceAdd])
    (repeat' (first | (apply run_qg 1; (focus rfl); (focus exact wt); (focus rfl); (focus (exact qg1))) | refine cod_seq ?_ | refine cod_region ?_ | refine run_nil ?_ | refine pst_then ?_))
    refine run_qs wt (by rfl) (q_slice_isnil rfl rfl rfl) ?_
    (repeat' (first | refine cod_seq ?_ | refine cod_region ?_ | refine run_nil ?_ | refine pst_then ?_ | (apply cod_cond_f; (focus rfl)) | refine cod_skip ?_))
    (refine run_os wt rfl (opr_empty rfl) ?_; rintro _ _ ⟨g, rfl, rfl⟩)
    (repeat' (first | (apply run_qg 1; (focus rfl); (focus exact wt); (focus rfl); (focus (exact qg1)))))
    (refine run_os wt rfl (opr_append (cnt := 0) (f := fS) (ys := xs) rfl rfl rfl pka pka (by intro _; rfl) (by (first | exact one_fS | exact one_fI | exact one_fB | exact one_fP | exact one_fIIS | exact one_fIIIS | exact one_fII | exact one_fSI | exact one_fIIU | exact one_fY | exact one_fBl | exact one_fT | exact one_fE | assumption)) rfl (by omega) (by (unfold maxLen); omega)) ?_; rintro _ _ ⟨q2, c2, rfl, rfl⟩)
    rw [Nat.zero_add, List.nil_append]
    (repeat' (first | (apply run_qg 1; (focus rfl); (focus exact wt); (focus rfl); (focus (exact qg1))) | refine run_nil ?_ | refine pst_then ?_ | refine cod_ret ?_))
    exact pst_fin rfl (by exact resa) _ (⟨q2, c2, rfl, rfl⟩) (by exact hsa)

def toSE (r : LRow) : SEnt := ((r.2.1 : Int), r.2.2.1, r.2.2.2.1, r.2.2.2.2.1, r.2.2.2.2.2)
def lotL (r : LRow) : Value × List (List Value) := (.slice r.2.2.2.2.1 r.2.2.1.length r.2.2.2.2.2, r.2.2.1.map fBl)
theorem within_ct (k n : Int) (h1 : 1 ≤ n) (h2 : n ≤ 9223372036854775807) : Ct Try.prog 16 [.int .i64 k, .int .i64 n] [] fun v H' => v = .int .i64 (withinF k n) ∧ H' = [] :=
  ct_of_calls fun W _ => (within_any k n h1 h2 W).mono fun e w' ⟨h1, h2⟩ => ⟨h1, by rw [← h2]; exact Below.refl _ _⟩
theorem check_none {cs : List ByteArray} (h1 : 1 ≤ cs.length ∧ cs.length ≤ 128) (h2 : ∀ s ∈ cs, s.size ≤ 1024) : checkD cs [] = 0 := by
  unfold checkD
  rw [if_neg (by omega), if_neg, if_neg (fun h => h rfl), if_neg (by decide)]
  intro h
  obtain ⟨s, hs, hb⟩ := List.any_eq_true.1 h
  have := h2 s hs
  unfold bigCell at hb
  simp at hb
  omega
theorem scan_two {cs : Cells} {ps : Waits} (h : cs.length ≤ 2) {tab outs : List LRow} {after : Int} (hR : RunOk cs ps after tab outs) : outs = [] := by
  obtain ⟨_, _, h1, h4, _⟩ := hR
  rw [scan_end _ _ h] at h1
  have ht : tab = [] := by simpa using h1
  subst ht
  cases outs with
  | nil => rfl
  | cons r l => cases h4 0 r rfl
theorem run_lit (q : Option Addr) (c : Nat) :
    Ct Try.prog 12 [.agg #[.slice q 3 c, .slice none 0 0], .int .i64 5] [sl 1 (.slice q 3 c) (([str [], str [], str []] : List ByteArray).map fS), sl 2 (.slice none 0 0) (([] : Waits).map fP)]
      fun v H' => ∃ (tab outs : List LRow) (q : Option Addr) (n c : Nat), v = .tuple #[.slice q n n, .int .i64 5, .int .i64 0] ∧ H' = [own (.slice q outs.length c) 48 3 outs.length (flat fEn outs), bundle (tab.map rowL)] := by
  refine ct_mono (run_any q none c 0 [str [], str [], str []] [] 5 (by decide) (by decide)) fun v H' h => ?_
  rcases h with ⟨tab, outs, q', c', ⟨_, _, h1, h4, _⟩, h2, h3⟩ | ⟨h1, _⟩
  · have hl : logF [str [], str [], str []] [] 2 = none := logF_short (by decide)
    rw [scan_none (by decide) hl, scan_end _ _ (by decide)] at h1
    have ht : tab = [] := by simpa using h1
    subst ht
    exact ⟨[], outs, q', _, c', h2, h3⟩
  · exact absurd ⟨check_none ⟨by decide, by decide⟩ (by intro s hs; simp at hs; subst hs; decide), by decide, by decide⟩ h1
theorem run_bad {a w : Option Addr} {ca cw : Nat} {cs : Cells} {ps : Waits} {after : Int} (hc : cs.length ≤ maxLen) (hp : ps.length ≤ maxLen) (h : ¬ (checkD cs ps = 0 ∧ 0 ≤ after ∧ after ≤ 2147483647)) :
    Ct Try.prog 12 [.agg #[.slice a cs.length ca, .slice w ps.length cw], .int .i64 after] [sl 1 (.slice a cs.length ca) (cs.map fS), sl 2 (.slice w ps.length cw) (ps.map fP)] fun v H' => ∃ e : Int, e ≠ 0 ∧ v = .tuple #[.slice none 0 0, .int .i64 0, .int .i64 e] ∧ H' = [] :=
  ct_mono (run_any a w ca cw cs ps after hc hp) fun v H' h2 => by
    rcases h2 with ⟨tab, outs, q, c, ⟨h3, h4, _⟩, _⟩ | ⟨_, h3⟩
    · exact absurd ⟨h3, h4⟩ h
    · exact h3
theorem run_good {a w : Option Addr} {ca cw : Nat} {cs : Cells} {ps : Waits} {after : Int} (hc : cs.length ≤ maxLen) (hp : ps.length ≤ maxLen) (h : checkD cs ps = 0 ∧ 0 ≤ after ∧ after ≤ 2147483647) :
    Ct Try.prog 12 [.agg #[.slice a cs.length ca, .slice w ps.length cw], .int .i64 after] [sl 1 (.slice a cs.length ca) (cs.map fS), sl 2 (.slice w ps.length cw) (ps.map fP)] fun v H' => ∃ (tab outs : List LRow) (q : Option Addr) (c : Nat), RunOk cs ps after tab outs ∧ v = .tuple #[.slice q (wholeF outs) (wholeF outs), .int .i64 (topF after tab), .int .i64 0] ∧ H' = [own (.slice q outs.length c) 48 3 outs.length (flat fEn outs), bundle (tab.map rowL)] :=
  ct_mono (run_any a w ca cw cs ps after hc hp) fun v H' h2 => by
    rcases h2 with h3 | ⟨h3, _⟩
    · exact h3
    · exact absurd h h3
def lostS : ByteArray := ⟨#[108, 111, 115, 116]⟩
theorem lost_law {cs : Cells} {ps : Waits} (hg : disk.Good cs ps) {p : Nat} (hp : p < cs.length) : checkD ((land (fun _ => true) 0 cs ps).set p lostS) [] = 0 ∧ Lost cs ps ((land (fun _ => true) 0 cs ps).set p lostS) [] p := by
  have hl := land_len (fun _ => true) ps 0 cs
  have hn0 := hg.n0
  have hn1 := hg.n1
  have hnow : ∀ k : Nat, nowD (land (fun _ => true) 0 cs ps) [] (k : Int) = nowD cs ps (k : Int) := fun k => now_land 0 cs (good_in hg)
  have hat : ∀ (k : Nat) (s : ByteArray), (land (fun _ => true) 0 cs ps)[k]? = some s → s = nowD cs ps (k : Int) := fun k s hs => by
    rw [← hnow k]
    unfold nowD
    show s = (land (fun _ => true) 0 cs ps).getD ((k : Int)).toNat ⟨#[]⟩
    rw [Int.toNat_natCast, List.getD_eq_getElem?_getD, hs]
    rfl
  refine ⟨check_none (by rw [List.length_set, hl]; omega) fun s hs => ?_, by rw [List.length_set, hl], ?_, fun k hk hkl => ?_⟩
  · obtain ⟨k, hk⟩ := List.mem_iff_getElem?.1 hs
    rw [List.getElem?_set] at hk
    split at hk
    · split at hk
      · cases hk
        decide
      · cases hk
    · rw [hat k s hk]
      exact now_bd hg _
  · refine logF_short ?_
    unfold nowL nowD
    show (((land (fun _ => true) 0 cs ps).set p lostS).getD ((p : Int)).toNat ⟨#[]⟩).data.toList.length < 11
    rw [Int.toNat_natCast, List.getD_eq_getElem?_getD, List.getElem?_set, if_pos rfl, if_pos (by omega)]
    decide
  · refine logF_now ?_
    unfold nowL
    rw [← hnow k]
    unfold nowD
    show (((land (fun _ => true) 0 cs ps).set p lostS).getD ((k : Int)).toNat ⟨#[]⟩).data.toList = ((land (fun _ => true) 0 cs ps).getD ((k : Int)).toNat ⟨#[]⟩).data.toList
    rw [Int.toNat_natCast, List.getD_eq_getElem?_getD, List.getD_eq_getElem?_getD, List.getElem?_set, if_neg (fun e => hk e.symm)]
theorem sync_good {a w : Option Addr} {ca cw : Nat} {cs : Cells} {ps : Waits} (hg : checkD cs ps = 0) (hc : cs.length ≤ maxLen) (hp : ps.length ≤ maxLen) :
    Ct Try.prog 15 [.agg #[.slice a cs.length ca, .slice w ps.length cw]] [sl 1 (.slice a cs.length ca) (cs.map fS), sl 2 (.slice w ps.length cw) (ps.map fP)] fun v H' => ∃ qa ca, v = .tuple #[.agg #[.slice qa (land (fun _ => true) 0 cs ps).length ca, .slice none 0 0], .int .i64 0] ∧ H' = [own (.slice qa (land (fun _ => true) 0 cs ps).length ca) 9 1 (land (fun _ => true) 0 cs ps).length (flat fS (land (fun _ => true) 0 cs ps))] :=
  ct_mono (sync_any a w ca cw cs ps hc hp) fun v H' h2 => by
    rcases h2 with ⟨h3, _⟩ | ⟨_, h3⟩
    · exact absurd hg h3
    · exact h3
end Go.Proofs.Ytcaefeooneomnaa.lawScanFront
/-
  ScanFront: the walk.
-/
namespace Go.Proofs.Ytcaefeooneomnaa.lawScanFront
open Go.RowKit kit sl Go.Proofs.Ytcaefeooneomnaa.use Go.Proofs.Ytcaefeooneomnaa.blob Go.Proofs.Ytcaefeooneomnaa.seal Go.Proofs.Ytcaefeooneomnaa.disk Go.Proofs.Ytcaefeooneomnaa.within
set_option linter.unusedVariables false
theorem run_len {cs : Cells} {ps : Waits} {after : Int} {tab outs : List LRow} (h : RunOk cs ps after tab outs) : outs.length ≤ 2147483648 := by
  rcases Nat.lt_or_ge 2147483648 outs.length with g | g
  · obtain ⟨r, hr⟩ : ∃ r, outs[2147483648]? = some r := ⟨_, List.getElem?_eq_getElem g⟩
    have hf := h.2.2.2.1 _ r hr
    have h1 := tab_num h.2.2.1 r (List.mem_of_find?_eq_some hf)
    have h2 : r.1 = after + 1 + ((2147483648 : Nat) : Int) := by simpa using List.find?_some hf
    have := h.2.1.1
    omega
  · exact g
theorem run_mem {cs : Cells} {ps : Waits} {after : Int} {tab outs : List LRow} (h : RunOk cs ps after tab outs) : ∀ r ∈ outs, r ∈ tab ∧ r.2.2.1.length ≤ maxLen := fun r hr => by
  obtain ⟨j, hj⟩ := List.mem_iff_getElem?.1 hr
  have hm := List.mem_of_find?_eq_some (h.2.2.2.1 j r hj)
  refine ⟨hm, ?_⟩
  have h1 : stripL r ∈ scanF cs ps 2 := by rw [← h.2.2.1]; exact List.mem_map_of_mem hm
  have h2 := (scan_mem.1 h1).2.2
  have := (log_right (n := r.1) (zs := r.2.2.1) (b := r.2.2.2.1) h2).1
  unfold maxLen
  omega
attribute [local irreducible] box own sl old bptr eptr Qt Opr Run Cod Pst Drn
set_option maxRecDepth 100000 in
set_option maxHeartbeats 8000000 in
theorem law_bad (a w : Option Addr) (ca cw : Nat) (cs : Cells) (ps : Waits) (after at' : Int) (hc : cs.length ≤ maxLen) (hp : ps.length ≤ maxLen) (h : ¬ (checkD cs ps = 0 ∧ 0 ≤ after ∧ after ≤ 2147483647)) :
    Ct Try.prog 4 [.agg #[.slice a cs.length ca, .slice w ps.length cw], .int .i64 after, .int .i64 at'] [sl 1 (.slice a cs.length ca) (cs.map fS), sl 2 (.slice w ps.length cw) (ps.map fP)] fun v H' => v = .bool true ∧ H' = [] := by
  have RB := run_bad (a := a) (w := w) (ca := ca) (cw := cw) hc hp h
  clear h
  (refine spec_enter Try.func4 Try.ntmps4 rfl rfl fun Fr => ?_; dsimp only [List.cons_append, List.nil_append, ini, Nat.reduceAdd])
  (repeat' (first | (apply run_qg 1; (focus rfl); (focus exact wt); (focus rfl); (focus (exact qg1))) | (apply run_qg 5; (focus rfl); (focus exact wt); (focus rfl); (focus (exact qg5))) | refine cod_seq ?_ | refine cod_region ?_ | refine run_nil ?_ | refine pst_then ?_ | (apply run_osg 8; (focus rfl); (focus exact wt); (focus rfl); (focus (exact opr_box_agg rfl rfl)); (rintro _ _ ⟨b, rfl, rfl⟩)) | (apply run_osg 10; (focus rfl); (focus exact wt); (focus rfl); (focus (exact opr_buildSlice rfl rfl rfl (by exact blda) rfl rfl (by decide) rfl)); (rintro _ _ ⟨q, rfl, rfl⟩))))
  (refine run_os wt rfl (opr_call_l rfl (run_lit _ _) rfl (by exact lpa)) ?_; rintro _ _ ⟨_, ⟨tab0, outs0, q0, n0, c0, rfl, rfl⟩, rfl⟩; dsimp only [List.cons_append, List.nil_append])
  (repeat' (first | (apply run_qg 1; (focus rfl); (focus exact wt); (focus rfl); (focus (exact qg1))) | (apply run_qg 2; (focus rfl); (focus exact wt); (focus rfl); (focus (first | exact qg2 | exact qs2))) | (apply run_qg 4; (focus rfl); (focus exact wt); (focus rfl); (focus (first | exact qg4 | exact qs4))) | refine cod_seq ?_ | refine cod_region ?_ | refine run_nil ?_ | refine pst_then ?_ | (apply cod_cond_f; (focus rfl)) | refine cod_skip ?_))
  (refine run_os wt rfl (opr_call_l rfl (RB) rfl (by exact lpa)) ?_; rintro _ _ ⟨_, ⟨e, he, rfl, rfl⟩, rfl⟩; dsimp only [List.cons_append, List.nil_append])
  (repeat' (first | (apply run_qg 1; (focus rfl); (focus exact wt); (focus rfl); (focus (exact qg1))) | (apply run_qg 4; (focus rfl); (focus exact wt); (focus rfl); (focus (first | exact qg4 | exact qs4))) | (apply run_qg 6; (focus rfl); (focus exact wt); (focus rfl); (focus (first | exact qs6 | exact qg6 | exact q_max rfl rfl rfl | exact q_sliceData rfl rfl (by omega) | exact q_sliceDataN rfl rfl | exact q_unsafeStringN rfl rfl rfl | exact q_cap_slice rfl rfl))) | refine cod_seq ?_ | refine cod_region ?_ | refine run_nil ?_ | refine pst_then ?_ | (apply cod_cond_t; (focus rfl)) | refine cod_ret ?_ | refine pst_then_ret ?_ | (apply run_offs; (focus rfl); (focus rfl); (focus rfl))))
  exact pst_fin rfl (by exact resa) _ (⟨rfl, rfl⟩) (by exact hsa)
set_option maxRecDepth 100000 in
set_option maxHeartbeats 8000000 in
theorem law_two (a w : Option Addr) (ca cw : Nat) (cs : Cells) (ps : Waits) (after at' : Int) (hc : cs.length ≤ maxLen) (hp : ps.length ≤ maxLen) (h : checkD cs ps = 0 ∧ 0 ≤ after ∧ after ≤ 2147483647) (h2 : cs.length < 3) :
    Ct Try.prog 4 [.agg #[.slice a cs.length ca, .slice w ps.length cw], .int .i64 after, .int .i64 at'] [sl 1 (.slice a cs.length ca) (cs.map fS), sl 2 (.slice w ps.length cw) (ps.map fP)] fun v H' => v = .bool true ∧ H' = [] := by
  have RB := run_good (a := a) (w := w) (ca := ca) (cw := cw) hc hp h
  clear h
  (refine spec_enter Try.func4 Try.ntmps4 rfl rfl fun Fr => ?_; dsimp only [List.cons_append, List.nil_append, ini, Nat.reduceAdd])
  (repeat' (first | (apply run_qg 1; (focus rfl); (focus exact wt); (focus rfl); (focus (exact qg1))) | (apply run_qg 5; (focus rfl); (focus exact wt); (focus rfl); (focus (exact qg5))) | refine cod_seq ?_ | refine cod_region ?_ | refine run_nil ?_ | refine pst_then ?_ | (apply run_osg 8; (focus rfl); (focus exact wt); (focus rfl); (focus (exact opr_box_agg rfl rfl)); (rintro _ _ ⟨b, rfl, rfl⟩)) | (apply run_osg 10; (focus rfl); (focus exact wt); (focus rfl); (focus (exact opr_buildSlice rfl rfl rfl (by exact blda) rfl rfl (by decide) rfl)); (rintro _ _ ⟨q, rfl, rfl⟩))))
  (refine run_os wt rfl (opr_call_l rfl (run_lit _ _) rfl (by exact lpa)) ?_; rintro _ _ ⟨_, ⟨tab0, outs0, q0, n0, c0, rfl, rfl⟩, rfl⟩; dsimp only [List.cons_append, List.nil_append])
  (repeat' (first | (apply run_qg 1; (focus rfl); (focus exact wt); (focus rfl); (focus (exact qg1))) | (apply run_qg 2; (focus rfl); (focus exact wt); (focus rfl); (focus (first | exact qg2 | exact qs2))) | (apply run_qg 4; (focus rfl); (focus exact wt); (focus rfl); (focus (first | exact qg4 | exact qs4))) | refine cod_seq ?_ | refine cod_region ?_ | refine run_nil ?_ | refine pst_then ?_ | (apply cod_cond_f; (focus rfl)) | refine cod_skip ?_))
  (refine run_os wt rfl (opr_call_l rfl (RB) rfl (by exact lpa)) ?_; rintro _ _ ⟨_, ⟨tab, outs, q, c, hR, rfl, rfl⟩, rfl⟩; dsimp only [List.cons_append, List.nil_append])
  have ho := scan_two (by omega) hR
  subst ho
  have hw0 : wholeF ([] : List LRow) = 0 := rfl
  rw [hw0]
  clear hR
  (repeat' (first | (apply run_qg 1; (focus rfl); (focus exact wt); (focus rfl); (focus (exact qg1))) | (apply run_qg 2; (focus rfl); (focus exact wt); (focus rfl); (focus (first | exact qg2 | exact qs2))) | (apply run_qg 3; (focus rfl); (focus exact wt); (focus rfl); (focus (first | exact qg3 | exact qs3))) | (apply run_qg 4; (focus rfl); (focus exact wt); (focus rfl); (focus (first | exact qg4 | exact qs4))) | (apply run_qg 6; (focus rfl); (focus exact wt); (focus rfl); (focus (first | exact qs6 | exact qg6 | exact q_max rfl rfl rfl | exact q_sliceData rfl rfl (by omega) | exact q_sliceDataN rfl rfl | exact q_unsafeStringN rfl rfl rfl | exact q_cap_slice rfl rfl))) | refine cod_seq ?_ | refine cod_region ?_ | refine run_nil ?_ | refine pst_then ?_ | (apply cod_cond_t; (focus rfl)) | refine cod_ret ?_ | refine pst_then_ret ?_))
  exact pst_fin rfl (by exact resa) _ (⟨rfl, rfl⟩) (by exact hsa)
set_option maxRecDepth 100000 in
set_option maxHeartbeats 8000000 in
theorem law_good (a w : Option Addr) (ca cw : Nat) (cs : Cells) (ps : Waits) (after at' : Int) (hc : cs.length ≤ maxLen) (hp : ps.length ≤ maxLen) (h : checkD cs ps = 0 ∧ 0 ≤ after ∧ after ≤ 2147483647) (h2 : 3 ≤ cs.length) :
    Ct Try.prog 4 [.agg #[.slice a cs.length ca, .slice w ps.length cw], .int .i64 after, .int .i64 at'] [sl 1 (.slice a cs.length ca) (cs.map fS), sl 2 (.slice w ps.length cw) (ps.map fP)] fun v H' => v = .bool true ∧ H' = [] := by
  have RB := run_good (a := a) (w := w) (ca := ca) (cw := cw) hc hp h
  have hg := good_of h.1
  have hn1 := hg.n1
  have TW := twice_any a w ca cw cs ps hg
  have CL := clone_S a ca cs (by omega)
  have SY := fun qa ca => sync_good (a := qa) (w := w) (ca := ca) (cw := cw) h.1 hc hp
  have hXl := land_len (fun _ => true) ps 0 cs
  obtain ⟨p, hp1⟩ : ∃ p : Nat, withinF at' ((cs.length : Int) - 2) = (p : Int) := ⟨(withinF at' ((cs.length : Int) - 2)).toNat, by have := withinF_bd at' ((cs.length : Int) - 2) (by omega); omega⟩
  have hp2 : p + 2 < cs.length := by have := withinF_bd at' ((cs.length : Int) - 2) (by omega); omega
  have W0 := within_ct at' ((cs.length : Int) - 2) (by omega) (by omega)
  rw [hp1] at W0
  obtain ⟨hX1, hX2⟩ := lost_law hg hp2
  have RX := fun qa ca => run_good (a := qa) (w := none) (ca := ca) (cw := 0) (cs := (land (fun _ => true) 0 cs ps).set (p + 2) lostS) (ps := []) (after := after) (by rw [List.length_set, hXl]; exact hc) (by decide) ⟨hX1, h.2⟩
  simp only [List.length_set, List.length_nil] at RX
  rw [hXl] at RX SY
  have hls : lostS = ⟨#[108, 111, 115, 116]⟩ := rfl
  generalize hXd : land (fun _ => true) 0 cs ps = X at *
  clear hXd
  clear h hX1
  have h2p : (2 : Int) + (p : Int) = ((p + 2 : Nat) : Int) := by omega
  obtain ⟨s0, hs0⟩ : ∃ s0, X[p + 2]? = some s0 := ⟨_, List.getElem?_eq_getElem (by omega)⟩
  (refine spec_enter Try.func4 Try.ntmps4 rfl rfl fun Fr => ?_; dsimp only [List.cons_append, List.nil_append, ini, Nat.reduceAdd])
  (repeat' (first | (apply run_qg 1; (focus rfl); (focus exact wt); (focus rfl); (focus (exact qg1))) | (apply run_qg 5; (focus rfl); (focus exact wt); (focus rfl); (focus (exact qg5))) | refine cod_seq ?_ | refine cod_region ?_ | refine run_nil ?_ | refine pst_then ?_ | (apply run_osg 8; (focus rfl); (focus exact wt); (focus rfl); (focus (exact opr_box_agg rfl rfl)); (rintro _ _ ⟨b, rfl, rfl⟩)) | (apply run_osg 10; (focus rfl); (focus exact wt); (focus rfl); (focus (exact opr_buildSlice rfl rfl rfl (by exact blda) rfl rfl (by decide) rfl)); (rintro _ _ ⟨q, rfl, rfl⟩))))
  (refine run_os wt rfl (opr_call_l rfl (run_lit _ _) rfl (by exact lpa)) ?_; rintro _ _ ⟨_, ⟨tab0, outs0, q0, n0, c0, rfl, rfl⟩, rfl⟩; dsimp only [List.cons_append, List.nil_append])
  (repeat' (first | (apply run_qg 1; (focus rfl); (focus exact wt); (focus rfl); (focus (exact qg1))) | (apply run_qg 2; (focus rfl); (focus exact wt); (focus rfl); (focus (first | exact qg2 | exact qs2))) | (apply run_qg 4; (focus rfl); (focus exact wt); (focus rfl); (focus (first | exact qg4 | exact qs4))) | refine cod_seq ?_ | refine cod_region ?_ | refine run_nil ?_ | refine pst_then ?_ | (apply cod_cond_f; (focus rfl)) | refine cod_skip ?_))
  (refine run_os wt rfl (opr_call_l rfl (RB) rfl (by exact lpa)) ?_; rintro _ _ ⟨_, ⟨tab, outs, q, c, hR, rfl, rfl⟩, rfl⟩; dsimp only [List.cons_append, List.nil_append])
  (repeat' (first | (apply run_qg 1; (focus rfl); (focus exact wt); (focus rfl); (focus (exact qg1))) | (apply run_qg 2; (focus rfl); (focus exact wt); (focus rfl); (focus (first | exact qg2 | exact qs2))) | (apply run_qg 3; (focus rfl); (focus exact wt); (focus rfl); (focus (first | exact qg3 | exact qs3))) | (apply run_qg 4; (focus rfl); (focus exact wt); (focus rfl); (focus (first | exact qg4 | exact qs4))) | (apply run_qg 6; (focus rfl); (focus exact wt); (focus rfl); (focus (first | exact qs6 | exact qg6 | exact q_max rfl rfl rfl | exact q_sliceData rfl rfl (by omega) | exact q_sliceDataN rfl rfl | exact q_unsafeStringN rfl rfl rfl | exact q_cap_slice rfl rfl))) | refine cod_seq ?_ | refine cod_region ?_ | refine run_nil ?_ | refine pst_then ?_ | (apply cod_cond_f; (focus rfl)) | refine cod_skip ?_))
  (refine run_os wt rfl (opr_call_l rfl (TW) rfl (by exact lpa)) ?_; rintro _ _ ⟨_, ⟨bt, hD, rfl, rfl⟩, rfl⟩; dsimp only [List.cons_append, List.nil_append])
  cases bt with
  | true =>
    clear hD hR
    (repeat' (first | (apply run_qg 1; (focus rfl); (focus exact wt); (focus rfl); (focus (exact qg1))) | refine cod_seq ?_ | refine cod_region ?_ | refine run_nil ?_ | refine pst_then ?_ | (apply cod_cond_t; (focus rfl)) | refine cod_ret ?_ | refine pst_then_ret ?_))
    exact pst_fin rfl (by exact resa) _ (⟨rfl, rfl⟩) (by exact hsa)
  | false =>
    have hD := hD rfl
    (repeat' (first | refine cod_seq ?_ | refine run_nil ?_ | refine pst_then ?_ | (apply cod_cond_f; (focus rfl)) | refine cod_skip ?_))
    refine cod_cut_drop 0 (σ := Nat × Option Addr × Nat) (fun _ => True) (fun x => [(13, bptr x.1 0)]) (fun x => [box x.1 [.slice x.2.1 cs.length x.2.2, .slice w ps.length cw] 37, own (.slice x.2.1 cs.length x.2.2) 9 1 cs.length (flat fS cs)]) ?_ ?_ <;> dsimp only [List.drop]
    · (refine cod_drawn_ks (Hq := [_, _]) [5, 6] [] rfl (by kernel_rfl) (by simp only [List.length_cons, List.length_nil, Nat.reduceAdd]; rfl) ?_)
      (repeat' (first | (apply drnK_take 2; (focus rfl); (focus rfl); (focus exact wt); (focus (decide +kernel)); (focus exact hsq); (focus rfl); (focus (first | exact qg2 | exact qs2))) | (apply drnK_take 3; (focus rfl); (focus rfl); (focus exact wt); (focus (decide +kernel)); (focus exact hsq); (focus rfl); (focus (first | exact qg3 | exact qs3))) | (apply drnK_done; (focus (decide +kernel))) | (apply drnK_skip; (focus rfl)) | (apply drnK_wrap; (focus rfl))))
      (refine drnK_at 2 ?_; refine drnK_two 6 (by kernel_rfl) ?_ ?_)
      · (refine drnI_s 1 2 (by rfl) wt (by rfl) (opr_call_l rfl (CL) rfl lpa) ?_; rintro _ _ ⟨_, ⟨g1, d1, rfl, rfl⟩, rfl⟩; refine ⟨(by first | exact fun h => absurd h (by decide) | exact fun _ => hsq), ?_⟩; (try dsimp only [List.cons_append, List.nil_append]))
        (repeat' (first | (apply drnK_take 5; (focus rfl); (focus rfl); (focus exact wt); (focus (decide +kernel)); (focus exact hsq); (focus rfl); (focus (exact qg5))) | (apply drnK_ones 8; (focus rfl); (focus rfl); (focus (decide +kernel)); (focus exact wt); (focus rfl); (focus (exact opr_new rfl)); (rintro _ _ ⟨b, rfl, rfl⟩; refine ⟨(by first | exact fun h => absurd h (by decide) | exact fun _ => hsq), ?_⟩)) | (apply drnK_onen 9; (focus rfl); (focus rfl); (focus (decide +kernel)); (focus exact wt); (focus (exact opr_store_box_agg rfl rfl rfl (by exact pka) rfl rfl rfl (by exact spla))); (rintro _ _ ⟨rfl, rfl⟩; refine ⟨(by first | exact fun h => absurd h (by decide) | exact fun _ => hsq), ?_⟩)) | (apply drnK_end; (focus (decide +kernel))) | (apply drnK_done; (focus (decide +kernel)))))
        exact pst_cut ((_, g1, d1)) (by trivial) (FSub.of fsa) hsa
      · ((first | refine drnI_s 1 6 (by rfl) wt (by rfl) (by exact opr_new rfl) ?_ | refine drnI_n 1 6 (by rfl) wt (by exact opr_new rfl) ?_); rintro _ _ ⟨b, rfl, rfl⟩; refine ⟨(by first | exact fun h => absurd h (by decide) | exact fun _ => hsq), ?_⟩; (try dsimp only [List.cons_append, List.nil_append]))
        (repeat' (first | (apply drnK_done; (focus (decide +kernel))) | (apply drnK_skip; (focus rfl)) | (apply drnK_wrap; (focus rfl))))
        (refine drnK_at 2 ?_; refine drnK_ones _ (by rfl) (by rfl) (by kernel_rfl) wt (by rfl) (opr_call_l rfl (CL) rfl lpa) ?_; rintro _ _ ⟨_, ⟨g1, d1, rfl, rfl⟩, rfl⟩; refine ⟨(by first | exact fun h => absurd h (by decide) | exact fun _ => hsq), ?_⟩; (try dsimp only [List.cons_append, List.nil_append]))
        (repeat' (first | (apply drnK_take 5; (focus rfl); (focus rfl); (focus exact wt); (focus (decide +kernel)); (focus exact hsq); (focus rfl); (focus (exact qg5))) | (apply drnK_onen 9; (focus rfl); (focus rfl); (focus (decide +kernel)); (focus exact wt); (focus (exact opr_store_box_agg rfl rfl rfl (by exact pka) rfl rfl rfl (by exact spla))); (rintro _ _ ⟨rfl, rfl⟩; refine ⟨(by first | exact fun h => absurd h (by decide) | exact fun _ => hsq), ?_⟩)) | (apply drnK_end; (focus (decide +kernel))) | (apply drnK_done; (focus (decide +kernel)))))
        exact pst_cut ((_, g1, d1)) (by trivial) (FSub.of fsa) hsa
    · rintro ⟨b13, qx, cx⟩ _
      dsimp only [List.cons_append, List.nil_append]
      (repeat' (first | (apply run_qg 2; (focus rfl); (focus exact wt); (focus rfl); (focus (first | exact qg2 | exact qs2))) | refine cod_seq ?_ | refine cod_region ?_ | refine pst_then ?_))
      (refine run_os wt rfl (opr_call_l rfl (SY _ _) rfl (by exact lpa)) ?_; rintro _ _ ⟨_, ⟨qs, c2, rfl, rfl⟩, rfl⟩; dsimp only [List.cons_append, List.nil_append])
      (repeat' (first | (apply run_qg 1; (focus rfl); (focus exact wt); (focus rfl); (focus (exact qg1))) | (apply run_qg 4; (focus rfl); (focus exact wt); (focus rfl); (focus (first | exact qg4 | exact qs4))) | refine cod_seq ?_ | refine cod_region ?_ | refine run_nil ?_ | refine pst_then ?_ | (apply cod_cond_f; (focus rfl)) | refine cod_skip ?_ | (apply run_ong 9; (focus rfl); (focus exact wt); (focus (exact opr_store_box_agg rfl rfl rfl (by exact pka) rfl rfl rfl (by exact spla))); (rintro _ _ ⟨rfl, rfl⟩))))
      (refine cod_drawn_ks (Hq := [_, _]) [0, 1] [10] rfl (by kernel_rfl) (by simp only [List.length_cons, List.length_nil, Nat.reduceAdd]; rfl) ?_)
      (repeat' (first | (apply drnK_take 1; (focus rfl); (focus rfl); (focus exact wt); (focus (decide +kernel)); (focus exact hsq); (focus rfl); (focus (exact qg1))) | (apply drnK_take 2; (focus rfl); (focus rfl); (focus exact wt); (focus (decide +kernel)); (focus exact hsq); (focus rfl); (focus (first | exact qg2 | exact qs2))) | (apply drnK_take 3; (focus rfl); (focus rfl); (focus exact wt); (focus (decide +kernel)); (focus exact hsq); (focus rfl); (focus (first | exact qg3 | exact qs3))) | (apply drnK_take 4; (focus rfl); (focus rfl); (focus exact wt); (focus (decide +kernel)); (focus exact hsq); (focus rfl); (focus (first | exact qg4 | exact qs4))) | (apply drnK_take 6; (focus rfl); (focus rfl); (focus exact wt); (focus (decide +kernel)); (focus exact hsq); (focus rfl); (focus (first | exact qs6 | exact qg6 | exact q_max rfl rfl rfl | exact q_sliceData rfl rfl (by omega) | exact q_sliceDataN rfl rfl | exact q_unsafeStringN rfl rfl rfl | exact q_cap_slice rfl rfl))) | (apply drnK_done; (focus (decide +kernel))) | (apply drnK_ones 7; (focus rfl); (focus rfl); (focus (decide +kernel)); (focus exact wt); (focus rfl); (focus (exact opr_call_ls (by rfl) (W0 ..) (by rfl) lpa)); (rintro _ _ ⟨rfl, rfl⟩; refine ⟨(by first | exact fun h => absurd h (by decide) | exact fun _ => hsq), ?_⟩)) | (apply drnK_skip; (focus rfl)) | (apply drnK_wrap; (focus rfl))))
      rw [h2p]
      (refine drnK_at 9 ?_; refine drnK_take _ rfl rfl wt (by decide +kernel) hsq rfl (q_index_own rfl rfl rfl pka rfl (by omega)) ?_)
      (refine drnK_at 10 ?_; (first | refine drnK_ones _ (by rfl) (by rfl) (by kernel_rfl) wt (by rfl) (by exact (opr_store_ownm (f := fS) (q' := lostS) rfl rfl rfl rfl (by exact pka) rfl (by omega) (by intro _; rfl) (by assumption) rfl rfl (by rfl))) ?_ | refine drnK_onen _ (by rfl) (by rfl) (by kernel_rfl) wt (by exact (opr_store_ownm (f := fS) (q' := lostS) rfl rfl rfl rfl (by exact pka) rfl (by omega) (by intro _; rfl) (by assumption) rfl rfl (by rfl))) ?_); rintro _ _ ⟨rfl, rfl⟩; refine ⟨(by first | exact fun h => absurd h (by decide) | exact fun _ => hsq), ?_⟩; (try dsimp only [List.cons_append, List.nil_append]))
      (repeat' (first | (apply run_qg 1; (focus rfl); (focus exact wt); (focus rfl); (focus (exact qg1))) | (apply run_qg 2; (focus rfl); (focus exact wt); (focus rfl); (focus (first | exact qg2 | exact qs2))) | refine cod_seq ?_ | refine cod_region ?_ | refine pst_then ?_ | (apply drnK_end; (focus (decide +kernel)))))
      have hXs : cs.length = (X.set (p + 2) lostS).length := by rw [List.length_set, hXl]
      (refine run_os wt rfl (opr_call_l rfl (RX _ _) rfl (by exact lpa)) ?_; rintro _ _ ⟨_, ⟨tab', outs', q', c', hR', rfl, rfl⟩, rfl⟩; dsimp only [List.cons_append, List.nil_append])
      obtain ⟨f1, f2, f3⟩ := front_law hD hX2 hR hR'
      have hw1 := whole_le outs
      have hw2 := whole_le outs'
      have hol := run_len hR
      have hZ := run_mem hR
      have hZ' := run_mem hR'
      have EQ := fun (q1 q2 : Option Addr) (c1 c2 : Nat) => equalF_any q1 q2 c1 c2 (wholeF outs') ((outs'.take (wholeF outs')).map toSE) ((outs.take (wholeF outs')).map toSE) (tab'.map lotL) (tab.map lotL) (by rw [List.length_map, List.length_take]; omega) (by rw [List.length_map, List.length_take]; omega) (by omega) (fun k r s h1 h2 => by
        rw [List.getElem?_map] at h1 h2
        obtain ⟨r0, h3, rfl⟩ := Option.map_eq_some_iff.1 h1
        obtain ⟨s0, h4, rfl⟩ := Option.map_eq_some_iff.1 h2
        rw [List.getElem?_take] at h3 h4
        split at h3
        · rename_i hk
          rw [if_pos hk] at h4
          have e := f3 k s0 r0 h4 h3
          exact ⟨congrArg (fun y : Nat × Int × List Blob × Bool => ((y.1 : Nat) : Int)) e, congrArg (fun y => y.2.2.1) e, congrArg (fun y => y.2.2.2) e⟩
        · cases h3) (fun r hr => by
        obtain ⟨r0, h3, rfl⟩ := List.mem_map.1 hr
        exact (hZ' r0 (List.mem_of_mem_take h3)).2) (fun r hr => by
        obtain ⟨r0, h3, rfl⟩ := List.mem_map.1 hr
        exact List.mem_map_of_mem (hZ' r0 (List.mem_of_mem_take h3)).1) (fun r hr => by
        obtain ⟨r0, h3, rfl⟩ := List.mem_map.1 hr
        exact List.mem_map_of_mem (hZ r0 (List.mem_of_mem_take h3)).1)
      have eL : ∀ l : List LRow, (l.map toSE).map fSE = l.map fEn := fun l => by rw [List.map_map]; rfl
      simp only [eL] at EQ
      clear hR hR' f1 f3 hZ hZ' hX2 hD
      generalize wholeF outs = W1 at *
      generalize wholeF outs' = W2 at *
      generalize topF after tab = T1 at *
      generalize topF after tab' = T2 at *
      (repeat' (first | (apply run_qg 1; (focus rfl); (focus exact wt); (focus rfl); (focus (exact qg1))) | (apply run_qg 4; (focus rfl); (focus exact wt); (focus rfl); (focus (first | exact qg4 | exact qs4))) | (apply run_qg 6; (focus rfl); (focus exact wt); (focus rfl); (focus (first | exact qs6 | exact qg6 | exact q_max rfl rfl rfl | exact q_sliceData rfl rfl (by omega) | exact q_sliceDataN rfl rfl | exact q_unsafeStringN rfl rfl rfl | exact q_cap_slice rfl rfl))) | (apply run_qg 12; (focus rfl); (focus exact wt); (focus rfl); (focus (first | exact qs12 | exact q_cutp rfl rfl rfl rfl (by omega) (by omega) | exact q_slice_cap rfl rfl rfl rfl (by omega)))) | refine cod_seq ?_ | refine cod_region ?_ | refine run_nil ?_ | refine pst_then ?_))
      refine run_os wt rfl (opr_call_ls rfl (EQ _ _ _ _) rfl (Lp.view (sl_excl _ _ _) (Lp.view (sl_excl _ _ _) (Lp.view rfl (Lp.view rfl Lp.nil (view_bundle (vv := fun r : LRow => .slice r.2.2.2.2.1 r.2.2.1.length r.2.2.2.2.2) (xs := fun r : LRow => r.2.2.1) (f := fBl) (rw := rowL) (tab := tab) pka (fun r => rfl) (fun _ => rfl) tab (fun r h => h))) (view_bundle (vv := fun r : LRow => .slice r.2.2.2.2.1 r.2.2.1.length r.2.2.2.2.2) (xs := fun r : LRow => r.2.2.1) (f := fBl) (rw := rowL) (tab := tab') pka (fun r => rfl) (fun _ => rfl) tab' (fun r h => h))) (view_room (ys := outs) (c' := W1) pka (fun _ => rfl) rfl f2 hw1)) (view_cut (ys := outs') pka (fun _ => rfl) rfl hw2))) ?_
      rintro _ _ ⟨rfl, rfl⟩
      (repeat' (first | (apply run_qg 1; (focus rfl); (focus exact wt); (focus rfl); (focus (exact qg1))) | refine run_nil ?_ | refine pst_then ?_ | refine cod_ret ?_))
      exact pst_fin rfl (by exact resa) _ (⟨rfl, rfl⟩) (by exact hsa)
theorem law_any (a w : Option Addr) (ca cw : Nat) (cs : Cells) (ps : Waits) (after at' : Int) (hc : cs.length ≤ maxLen) (hp : ps.length ≤ maxLen) :
    Ct Try.prog 4 [.agg #[.slice a cs.length ca, .slice w ps.length cw], .int .i64 after, .int .i64 at'] [sl 1 (.slice a cs.length ca) (cs.map fS), sl 2 (.slice w ps.length cw) (ps.map fP)] fun v H' => v = .bool true ∧ H' = [] := by
  by_cases h : checkD cs ps = 0 ∧ 0 ≤ after ∧ after ≤ 2147483647
  · rcases Nat.lt_or_ge cs.length 3 with h2 | h2
    · exact law_two a w ca cw cs ps after at' hc hp h h2
    · exact law_good a w ca cw cs ps after at' hc hp h h2
  · exact law_bad a w ca cw cs ps after at' hc hp h
theorem walk (W : World) (a : Value) (cs : List ByteArray) (ha : SliceAt W 1 a (cs.map fun s : ByteArray => [Value.string s])) (ga : ∀ s ∈ cs, s.size ≤ maxLen) (na : cs.length * Try.prog.bytesOf 9 ≤ reachBytes)
    (b : Value) (ps : List (Int × ByteArray)) (hb : SliceAt W 2 b (ps.map fun p : Int × ByteArray => [Value.int .i64 p.1, Value.string p.2])) (gb : ∀ p ∈ ps, (Lit.int .i64 p.1).wf = true ∧ p.2.size ≤ maxLen) (nb : ps.length * Try.prog.bytesOf 105 ≤ reachBytes)
    (after : Int) (waf : (Lit.int .i64 after).wf = true) (at' : Int) (wat : (Lit.int .i64 at').wf = true) :
    Calls Try.prog 4 #[.agg #[a, b], .int .i64 after, .int .i64 at'] W fun e w' => e = .returned (.bool true) ∧ Below W.heap.size W w' := by
  have hc := len_bound (by kernel_rfl) na
  have hp := len_bound (by kernel_rfl) nb
  obtain ⟨qa, ca, rfl⟩ := slice_shape ha
  obtain ⟨qb, cb, rfl⟩ := slice_shape hb
  simp only [List.length_map] at ha hb ⊢
  exact law_of_ct (sh_cons ha (sh_cons hb sh_nil)) (law_any qa qb ca cb cs ps after at' hc hp)
end Go.Proofs.Ytcaefeooneomnaa.lawScanFront
