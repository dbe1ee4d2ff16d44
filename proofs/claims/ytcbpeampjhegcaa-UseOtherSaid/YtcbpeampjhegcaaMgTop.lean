/-
  Several texts in one: DocAlive, OtherIx, DiskNW, OtherLaw, WalkUseOther.
-/
import Derived.Test.YtcbpeampjhegcaaMgLog
import Derived.Test.YtcbpeampjhegcaaMgUse
import Derived.Test.YtcbpeampjhegcaaDiskNow
import Derived.Test.YtcbpeampjhegcaaSlOwn
import Derived.Test.YtcbpeampjhegcaaWithin
import Derived.Test.YtcbpeampjhegcaaOpen2
import Derived.Test.YtcbpeampjhegcaaSlCut2
/-
  linenref.At, linenref.AliveInode, linenref.Alive: the walks.
-/
namespace Go.Proofs.Ytcbpeampjhegcaa.use
open Go.RowKit kit sl Go.Proofs.Ytcbpeampjhegcaa.disk Go.Proofs.Ytcbpeampjhegcaa.blob Go.Proofs.Ytcbpeampjhegcaa.inode Go.Proofs.Ytcbpeampjhegcaa.imap
set_option linter.unusedVariables false
attribute [local irreducible] box own sl old bptr eptr Qt Opr Run Cod Pst Drn
set_option maxRecDepth 100000 in
set_option maxHeartbeats 8000000 in
theorem docat_any (a w : Option Addr) (ca cw : Nat) (cs : Cells) (ps : Waits) (p : Int × Int) (hg : disk.Good cs ps) :
    Ct Try.prog 16 [.agg #[.slice a cs.length ca, .slice w ps.length cw], .agg #[.int .i64 p.1, .int .i64 p.2]] [sl 1 (.slice a cs.length ca) (cs.map fS), sl 2 (.slice w ps.length cw) (ps.map fP)] fun v H' => v = .tuple #[.agg #[.int .i64 (blobF cs ps p).1.1, .int .i64 (blobF cs ps p).1.2.1, .int .i64 (blobF cs ps p).1.2.2.1, .string (str (blobF cs ps p).1.2.2.2)], .int .i64 (blobF cs ps p).2] ∧ H' = [] := by
  obtain ⟨x, y⟩ := p
  have hn1 := hg.n1
  by_cases h1 : x < 2 ∨ (cs.length : Int) ≤ x ∨ y < 0
  · have e : blobF cs ps (x, y) = (zBl, 12) := by unfold blobF; rw [if_pos h1]
    rw [e]
    unfold zBl
    dsimp only
    (refine spec_enter Try.func16 Try.ntmps16 rfl rfl fun Fr => ?_; dsimp only [List.cons_append, List.nil_append, ini, Nat.reduceAdd])
    (repeat' (first | (apply run_qg 1; (focus rfl); (focus exact wt); (focus rfl); (focus (exact qg1))) | (apply run_qg 2; (focus rfl); (focus exact wt); (focus rfl); (focus (first | exact qg2 | exact qs2))) | (apply run_qg 3; (focus rfl); (focus exact wt); (focus rfl); (focus (first | exact qg3 | exact qs3))) | (apply run_qg 4; (focus rfl); (focus exact wt); (focus rfl); (focus (first | exact qg4 | exact qs4))) | (apply run_qg 5; (focus rfl); (focus exact wt); (focus rfl); (focus (exact qg5))) | (apply run_qg 6; (focus rfl); (focus exact wt); (focus rfl); (focus (first | exact qs6 | exact qg6 | exact q_max rfl rfl rfl | exact q_sliceData rfl rfl (by omega) | exact q_sliceDataN rfl rfl | exact q_unsafeStringN rfl rfl rfl | exact q_cap_slice rfl rfl))) | refine cod_seq ?_ | refine cod_region ?_ | refine run_nil ?_ | refine pst_then ?_ | (apply cod_cond_t; (focus rfl)) | refine cod_ret ?_ | refine pst_then_ret ?_ | (apply run_osg 8; (focus rfl); (focus exact wt); (focus rfl); (focus (exact opr_box_agg rfl rfl)); (rintro _ _ ⟨b, rfl, rfl⟩)) | (apply run_osg 8; (focus rfl); (focus exact wt); (focus rfl); (focus (exact opr_new rfl)); (rintro _ _ ⟨b, rfl, rfl⟩)) | (apply run_ong 9; (focus rfl); (focus exact wt); (focus (exact opr_store_box_agg rfl rfl rfl (by exact pka) rfl rfl rfl (by exact spla))); (rintro _ _ ⟨rfl, rfl⟩)) | (apply run_offs; (focus rfl); (focus rfl); (focus rfl)) | ((first | (apply run_lss; (rotate_left 2); (focus rfl)) | (apply run_leq; (rotate_left 2); (focus rfl)) | (apply run_gtr; (rotate_left 2); (focus rfl)) | (apply run_geq; (rotate_left 2); (focus rfl)) | (apply run_eql; (rotate_left 2); (focus rfl)) | (apply run_neq; (rotate_left 2); (focus rfl)) | (apply run_seq; (rotate_left 2); (focus rfl)) | (apply run_sneq; (rotate_left 2); (focus rfl))); (focus rfl); (focus rfl); (rotate_right 2); (focus exact wt); (focus rfl); (all_goals (intro h; dsimp only [upd])))))
    all_goals first | (exfalso; omega) | exact pst_fin rfl (by exact resa) _ (⟨rfl, rfl⟩) (by exact hsa)
  · obtain ⟨k, rfl⟩ := Int.eq_ofNat_of_zero_le (by omega : 0 ≤ x)
    obtain ⟨j, rfl⟩ := Int.eq_ofNat_of_zero_le (by omega : 0 ≤ y)
    have hk : k < cs.length := by omega
    cases hlog : logF cs ps k with
    | none =>
      have C0 := doclog_none (a := a) (w := w) (ca := ca) (cw := cw) (by omega) hk hg hlog
      have e : blobF cs ps ((k : Int), (j : Int)) = (zBl, 18) := by unfold blobF; rw [if_neg h1]; dsimp only; rw [Int.toNat_natCast, hlog]
      rw [e]
      unfold zBl
      dsimp only
      (refine spec_enter Try.func16 Try.ntmps16 rfl rfl fun Fr => ?_; dsimp only [List.cons_append, List.nil_append, ini, Nat.reduceAdd])
      (repeat' (first | (apply run_qg 1; (focus rfl); (focus exact wt); (focus rfl); (focus (exact qg1))) | (apply run_qg 2; (focus rfl); (focus exact wt); (focus rfl); (focus (first | exact qg2 | exact qs2))) | (apply run_qg 3; (focus rfl); (focus exact wt); (focus rfl); (focus (first | exact qg3 | exact qs3))) | (apply run_qg 4; (focus rfl); (focus exact wt); (focus rfl); (focus (first | exact qg4 | exact qs4))) | (apply run_qg 6; (focus rfl); (focus exact wt); (focus rfl); (focus (first | exact qs6 | exact qg6 | exact q_max rfl rfl rfl | exact q_sliceData rfl rfl (by omega) | exact q_sliceDataN rfl rfl | exact q_unsafeStringN rfl rfl rfl | exact q_cap_slice rfl rfl))) | refine cod_seq ?_ | refine cod_region ?_ | refine run_nil ?_ | refine pst_then ?_ | (apply cod_cond_f; (focus rfl)) | refine cod_skip ?_ | (apply run_osg 8; (focus rfl); (focus exact wt); (focus rfl); (focus (exact opr_box_agg rfl rfl)); (rintro _ _ ⟨b, rfl, rfl⟩)) | (apply run_osg 8; (focus rfl); (focus exact wt); (focus rfl); (focus (exact opr_new rfl)); (rintro _ _ ⟨b, rfl, rfl⟩))))
      (refine run_os wt rfl (opr_call_l rfl (C0) rfl (by exact lpa)) ?_; rintro _ _ ⟨_, ⟨n, rfl, rfl⟩, rfl⟩; dsimp only [List.cons_append, List.nil_append])
      (repeat' (first | (apply run_qg 1; (focus rfl); (focus exact wt); (focus rfl); (focus (exact qg1))) | (apply run_qg 4; (focus rfl); (focus exact wt); (focus rfl); (focus (first | exact qg4 | exact qs4))) | (apply run_qg 5; (focus rfl); (focus exact wt); (focus rfl); (focus (exact qg5))) | refine cod_seq ?_ | refine cod_region ?_ | refine run_nil ?_ | refine pst_then ?_ | (apply cod_cond_t; (focus rfl)) | refine cod_ret ?_ | refine pst_then_ret ?_ | (apply run_ong 9; (focus rfl); (focus exact wt); (focus (exact opr_store_box_agg rfl rfl rfl (by exact pka) rfl rfl rfl (by exact spla))); (rintro _ _ ⟨rfl, rfl⟩))))
      exact pst_fin rfl (by exact resa) _ (⟨rfl, rfl⟩) (by exact hsa)
    | some r =>
      obtain ⟨n, zs, b⟩ := r
      have C0 := doclog_some (a := a) (w := w) (ca := ca) (cw := cw) (by omega) hk hg hlog
      have hz40 := (log_right hlog).1
      by_cases h2 : zs.length ≤ j
      · have e : blobF cs ps ((k : Int), (j : Int)) = (zBl, 12) := by unfold blobF; rw [if_neg h1]; dsimp only; rw [Int.toNat_natCast, hlog]; dsimp only; rw [if_pos (by omega)]
        rw [e]
        unfold zBl
        dsimp only
        (refine spec_enter Try.func16 Try.ntmps16 rfl rfl fun Fr => ?_; dsimp only [List.cons_append, List.nil_append, ini, Nat.reduceAdd])
        (repeat' (first | (apply run_qg 1; (focus rfl); (focus exact wt); (focus rfl); (focus (exact qg1))) | (apply run_qg 2; (focus rfl); (focus exact wt); (focus rfl); (focus (first | exact qg2 | exact qs2))) | (apply run_qg 3; (focus rfl); (focus exact wt); (focus rfl); (focus (first | exact qg3 | exact qs3))) | (apply run_qg 4; (focus rfl); (focus exact wt); (focus rfl); (focus (first | exact qg4 | exact qs4))) | (apply run_qg 6; (focus rfl); (focus exact wt); (focus rfl); (focus (first | exact qs6 | exact qg6 | exact q_max rfl rfl rfl | exact q_sliceData rfl rfl (by omega) | exact q_sliceDataN rfl rfl | exact q_unsafeStringN rfl rfl rfl | exact q_cap_slice rfl rfl))) | refine cod_seq ?_ | refine cod_region ?_ | refine run_nil ?_ | refine pst_then ?_ | (apply cod_cond_f; (focus rfl)) | refine cod_skip ?_ | (apply run_osg 8; (focus rfl); (focus exact wt); (focus rfl); (focus (exact opr_box_agg rfl rfl)); (rintro _ _ ⟨b, rfl, rfl⟩)) | (apply run_osg 8; (focus rfl); (focus exact wt); (focus rfl); (focus (exact opr_new rfl)); (rintro _ _ ⟨b, rfl, rfl⟩))))
        (refine run_os wt rfl (opr_call_l rfl (C0) rfl (by exact lpa)) ?_; rintro _ _ ⟨_, ⟨q, c, rfl, rfl⟩, rfl⟩; dsimp only [List.cons_append, List.nil_append])
        (repeat' (first | (apply run_qg 1; (focus rfl); (focus exact wt); (focus rfl); (focus (exact qg1))) | (apply run_qg 2; (focus rfl); (focus exact wt); (focus rfl); (focus (first | exact qg2 | exact qs2))) | (apply run_qg 3; (focus rfl); (focus exact wt); (focus rfl); (focus (first | exact qg3 | exact qs3))) | (apply run_qg 4; (focus rfl); (focus exact wt); (focus rfl); (focus (first | exact qg4 | exact qs4))) | (apply run_qg 5; (focus rfl); (focus exact wt); (focus rfl); (focus (exact qg5))) | (apply run_qg 6; (focus rfl); (focus exact wt); (focus rfl); (focus (first | exact qs6 | exact qg6 | exact q_max rfl rfl rfl | exact q_sliceData rfl rfl (by omega) | exact q_sliceDataN rfl rfl | exact q_unsafeStringN rfl rfl rfl | exact q_cap_slice rfl rfl))) | refine cod_seq ?_ | refine cod_region ?_ | refine run_nil ?_ | refine pst_then ?_ | (apply cod_cond_t; (focus rfl)) | (apply cod_cond_f; (focus rfl)) | refine cod_ret ?_ | refine cod_skip ?_ | refine pst_then_ret ?_ | (apply run_ong 9; (focus rfl); (focus exact wt); (focus (exact opr_store_box_agg rfl rfl rfl (by exact pka) rfl rfl rfl (by exact spla))); (rintro _ _ ⟨rfl, rfl⟩))))
        exact pst_fin rfl (by exact resa) _ (⟨rfl, rfl⟩) (by exact hsa)
      · obtain ⟨z, hz⟩ : ∃ z, zs[j]? = some z := ⟨_, List.getElem?_eq_getElem (by omega)⟩
        have e : blobF cs ps ((k : Int), (j : Int)) = (z, 0) := by unfold blobF; rw [if_neg h1]; dsimp only; rw [Int.toNat_natCast, hlog]; dsimp only; rw [if_neg (by omega), Int.toNat_natCast, List.getD_eq_getElem?_getD, hz]; rfl
        rw [e]
        dsimp only
        (refine spec_enter Try.func16 Try.ntmps16 rfl rfl fun Fr => ?_; dsimp only [List.cons_append, List.nil_append, ini, Nat.reduceAdd])
        (repeat' (first | (apply run_qg 1; (focus rfl); (focus exact wt); (focus rfl); (focus (exact qg1))) | (apply run_qg 2; (focus rfl); (focus exact wt); (focus rfl); (focus (first | exact qg2 | exact qs2))) | (apply run_qg 3; (focus rfl); (focus exact wt); (focus rfl); (focus (first | exact qg3 | exact qs3))) | (apply run_qg 4; (focus rfl); (focus exact wt); (focus rfl); (focus (first | exact qg4 | exact qs4))) | (apply run_qg 6; (focus rfl); (focus exact wt); (focus rfl); (focus (first | exact qs6 | exact qg6 | exact q_max rfl rfl rfl | exact q_sliceData rfl rfl (by omega) | exact q_sliceDataN rfl rfl | exact q_unsafeStringN rfl rfl rfl | exact q_cap_slice rfl rfl))) | refine cod_seq ?_ | refine cod_region ?_ | refine run_nil ?_ | refine pst_then ?_ | (apply cod_cond_f; (focus rfl)) | refine cod_skip ?_ | (apply run_osg 8; (focus rfl); (focus exact wt); (focus rfl); (focus (exact opr_box_agg rfl rfl)); (rintro _ _ ⟨b, rfl, rfl⟩)) | (apply run_osg 8; (focus rfl); (focus exact wt); (focus rfl); (focus (exact opr_new rfl)); (rintro _ _ ⟨b, rfl, rfl⟩))))
        (refine run_os wt rfl (opr_call_l rfl (C0) rfl (by exact lpa)) ?_; rintro _ _ ⟨_, ⟨q, c, rfl, rfl⟩, rfl⟩; dsimp only [List.cons_append, List.nil_append])
        (repeat' (first | (apply run_qg 1; (focus rfl); (focus exact wt); (focus rfl); (focus (exact qg1))) | (apply run_qg 2; (focus rfl); (focus exact wt); (focus rfl); (focus (first | exact qg2 | exact qs2))) | (apply run_qg 3; (focus rfl); (focus exact wt); (focus rfl); (focus (first | exact qg3 | exact qs3))) | (apply run_qg 4; (focus rfl); (focus exact wt); (focus rfl); (focus (first | exact qg4 | exact qs4))) | (apply run_qg 6; (focus rfl); (focus exact wt); (focus rfl); (focus (first | exact qs6 | exact qg6 | exact q_max rfl rfl rfl | exact q_sliceData rfl rfl (by omega) | exact q_sliceDataN rfl rfl | exact q_unsafeStringN rfl rfl rfl | exact q_cap_slice rfl rfl))) | refine cod_seq ?_ | refine cod_region ?_ | refine run_nil ?_ | refine pst_then ?_ | (apply cod_cond_f; (focus rfl)) | refine cod_ret ?_ | refine cod_skip ?_ | (apply run_ong 9; (focus rfl); (focus exact wt); (focus (exact opr_store_box_agg rfl rfl rfl (by exact pka) rfl rfl rfl (by exact spla))); (rintro _ _ ⟨rfl, rfl⟩))))
        exact pst_fin rfl (by exact resa) _ (⟨rfl, rfl⟩) (by exact hsa)
set_option maxRecDepth 100000 in
set_option maxHeartbeats 8000000 in
theorem docino_any (a w qa qg : Option Addr) (ca cw ca2 cg : Nat) (cs : Cells) (ps : Waits) (at' : List (Int × Int)) (gens : List Int) (i : Nat) (p : Int × Int) (g : Int) (hp : at'[i]? = some p) (hgi : gens[i]? = some g) (hl : at'.length ≤ 1000) (hg : disk.Good cs ps) {l : List UInt8} (h : inoF cs ps p g (i : Int) = some l) :
    Ct Try.prog 15 [.agg #[.slice a cs.length ca, .slice w ps.length cw], .agg #[.slice qa at'.length ca2, .slice qg gens.length cg], .int .i64 (i : Int)] [sl 1 (.slice a cs.length ca) (cs.map fS), sl 2 (.slice w ps.length cw) (ps.map fP), sl 2 (.slice qa at'.length ca2) (at'.map fII), sl 1 (.slice qg gens.length cg) (gens.map fI)]
      fun v H' => ∃ q c, v = .tuple #[.agg #[.int .i64 (kI l), .int .i64 (gI l), .int .i64 (zI l), .slice q (pI l).length c], .bool true] ∧ H' = [own (.slice q (pI l).length c) 38 2 (pI l).length (flat fII (pI l))] := by
  obtain ⟨t1, t2, t3, t4, t5, t6, t7⟩ := ino_text h
  have A0 := docat_any a w ca cw cs ps p hg
  rw [t1, t2, t3, t6] at A0
  have R0 := docread_any l t4 (by omega)
  rw [t5] at R0
  rw [t5]
  have hli : i < at'.length := (List.getElem?_eq_some_iff.1 hp).1
  have hlg : i < gens.length := (List.getElem?_eq_some_iff.1 hgi).1
  generalize (blobF cs ps p).1.2.2.1 = bn at *
  clear t1 t2 t3 t4 t5 t6 h
  (refine spec_enter Try.func15 Try.ntmps15 rfl rfl fun Fr => ?_; dsimp only [List.cons_append, List.nil_append, ini, Nat.reduceAdd])
  (repeat' (first | (apply run_qg 1; (focus rfl); (focus exact wt); (focus rfl); (focus (exact qg1))) | (apply run_qg 2; (focus rfl); (focus exact wt); (focus rfl); (focus (first | exact qg2 | exact qs2))) | (apply run_qg 3; (focus rfl); (focus exact wt); (focus rfl); (focus (first | exact qg3 | exact qs3))) | (apply run_qg 4; (focus rfl); (focus exact wt); (focus rfl); (focus (first | exact qg4 | exact qs4))) | refine cod_seq ?_ | refine cod_region ?_ | refine run_nil ?_ | refine pst_then ?_ | (apply cod_cond_f; (focus rfl)) | refine cod_skip ?_ | (apply run_osg 8; (focus rfl); (focus exact wt); (focus rfl); (focus (exact opr_box_agg rfl rfl)); (rintro _ _ ⟨b, rfl, rfl⟩)) | (apply run_osg 8; (focus rfl); (focus exact wt); (focus rfl); (focus (exact opr_new rfl)); (rintro _ _ ⟨b, rfl, rfl⟩)) | (apply cod_drawn_k; (focus kernel_rfl); (focus (simp only [List.length_cons, List.length_nil, Nat.reduceAdd]; rfl))) | (apply drnK_take 1; (focus rfl); (focus rfl); (focus exact wt); (focus (decide +kernel)); (focus exact hsq); (focus rfl); (focus (exact qg1))) | (apply drnK_take 2; (focus rfl); (focus rfl); (focus exact wt); (focus (decide +kernel)); (focus exact hsq); (focus rfl); (focus (first | exact qg2 | exact qs2))) | (apply drnK_take 3; (focus rfl); (focus rfl); (focus exact wt); (focus (decide +kernel)); (focus exact hsq); (focus rfl); (focus (first | exact qg3 | exact qs3))) | (apply drnK_ones 8; (focus rfl); (focus rfl); (focus (decide +kernel)); (focus exact wt); (focus rfl); (focus (exact opr_new rfl)); (rintro _ _ ⟨b, rfl, rfl⟩; refine ⟨(by first | exact fun h => absurd h (by decide) | exact fun _ => hsq), ?_⟩)) | (apply drnK_onen 9; (focus rfl); (focus rfl); (focus (decide +kernel)); (focus exact wt); (focus (exact opr_store_box_agg rfl rfl rfl (by exact pka) rfl rfl rfl (by exact spla))); (rintro _ _ ⟨rfl, rfl⟩; refine ⟨(by first | exact fun h => absurd h (by decide) | exact fun _ => hsq), ?_⟩)) | (apply drnK_end; (focus (decide +kernel))) | (apply drnK_done; (focus (decide +kernel))) | (apply drnK_ones 7; (focus rfl); (focus rfl); (focus (decide +kernel)); (focus exact wt); (focus rfl); (focus (exact opr_call_ls (by rfl) (A0 ..) (by rfl) lpa)); (rintro _ _ ⟨rfl, rfl⟩; refine ⟨(by first | exact fun h => absurd h (by decide) | exact fun _ => hsq), ?_⟩)) | (refine drnK_at 6 ?_; refine drnK_two 10 (by decide +kernel) ?_ ?_) | (apply drnI_s 1 _; (focus rfl); (focus exact wt); (focus rfl); (focus (exact opr_new rfl)); (rintro _ _ ⟨b, rfl, rfl⟩; refine ⟨(by first | exact fun h => absurd h (by decide) | exact fun _ => hsq), ?_⟩)) | (apply drnI_s 1 _; (focus rfl); (focus exact wt); (focus rfl); (focus (exact opr_call_ls (by rfl) (A0 ..) (by rfl) lpa)); (rintro _ _ ⟨rfl, rfl⟩; refine ⟨(by first | exact fun h => absurd h (by decide) | exact fun _ => hsq), ?_⟩))))
  all_goals
    (refine run_os wt rfl (opr_call_l rfl (R0) rfl (by exact lpa)) ?_; rintro _ _ ⟨_, ⟨q9, c9, rfl, rfl⟩, rfl⟩; dsimp only [List.cons_append, List.nil_append])
    (repeat' (first | (apply run_qg 1; (focus rfl); (focus exact wt); (focus rfl); (focus (exact qg1))) | refine cod_seq ?_ | refine run_nil ?_ | refine pst_then ?_ | (apply run_osg 8; (focus rfl); (focus exact wt); (focus rfl); (focus (exact opr_new rfl)); (rintro _ _ ⟨b, rfl, rfl⟩)) | (apply run_ong 9; (focus rfl); (focus exact wt); (focus (exact opr_store_box_agg rfl rfl rfl (by exact pka) rfl rfl rfl (by exact spla))); (rintro _ _ ⟨rfl, rfl⟩))))
    (refine cod_drawn_ks (Hq := [_, _, _]) [0, 4, 9] [] rfl (by kernel_rfl) (by simp only [List.length_cons, List.length_nil, Nat.reduceAdd]; rfl) ?_)
    (repeat' (first | refine pst_then ?_ | refine cod_ret ?_ | (apply drnK_take 1; (focus rfl); (focus rfl); (focus exact wt); (focus (decide +kernel)); (focus exact hsq); (focus rfl); (focus (exact qg1))) | (apply drnK_take 2; (focus rfl); (focus rfl); (focus exact wt); (focus (decide +kernel)); (focus exact hsq); (focus rfl); (focus (first | exact qg2 | exact qs2))) | (apply drnK_take 3; (focus rfl); (focus rfl); (focus exact wt); (focus (decide +kernel)); (focus exact hsq); (focus rfl); (focus (first | exact qg3 | exact qs3))) | (apply drnK_take 4; (focus rfl); (focus rfl); (focus exact wt); (focus (decide +kernel)); (focus exact hsq); (focus rfl); (focus (first | exact qg4 | exact qs4))) | (apply drnK_onen 9; (focus rfl); (focus rfl); (focus (decide +kernel)); (focus exact wt); (focus (exact opr_store_box_agg rfl rfl rfl (by exact pka) rfl rfl rfl (by exact spla))); (rintro _ _ ⟨rfl, rfl⟩; refine ⟨(by first | exact fun h => absurd h (by decide) | exact fun _ => hsq), ?_⟩)) | (apply drnK_end; (focus (decide +kernel)))))
    exact pst_fin rfl (by exact resa) _ (⟨q9, c9, rfl, rfl⟩) (by exact hsa)
def fsts (l : List (Int × Int)) : List Int := l.map (·.1)
def fstI (l : List use.Item) : List Int := l.map (·.1)
def AliveR (L : List use.Item) (v : Value) (H' : List Ent) : Prop := ∃ (out : List (Int × Int)) (q : Option Addr) (c : Nat), (fsts out = fstI L ∧ out.length ≤ 1000) ∧ v = .tuple #[.slice q out.length c, .bool true] ∧ H' = [own (.slice q out.length c) 38 2 out.length (flat fII out)]
instance {L : List use.Item} : Xcl (AliveR L) := by unfold AliveR; infer_instance
theorem fsts_add {out : List (Int × Int)} {p : Int × Int} {x : use.Item} {A R : List use.Item} {N : List Int} (h : fsts out ++ fstI (x :: A ++ R) = N) (hp : p.1 = x.1) : fsts (out ++ [p]) ++ fstI (A ++ R) = N := by
  rw [← h]
  unfold fsts fstI
  simp [hp]
theorem goodI_few {l : List UInt8} (h : goodI l) : (pI l).length ≤ 8 := by
  obtain ⟨_, _, h1, h2⟩ := goodI_all h
  omega
attribute [local irreducible] fsts fstI
set_option maxRecDepth 100000 in
set_option maxHeartbeats 8000000 in
theorem alive_any (a w qa qg : Option Addr) (ca cw ca2 cg : Nat) (cs : Cells) (ps : Waits) (at' : List (Int × Int)) (gens : List Int) {L : List use.Item} (hL : CntOk cs ps at' gens L) :
    Ct Try.prog 6 [.agg #[.slice a cs.length ca, .slice w ps.length cw], .agg #[.slice qa at'.length ca2, .slice qg gens.length cg]] [sl 1 (.slice a cs.length ca) (cs.map fS), sl 2 (.slice w ps.length cw) (ps.map fP), sl 2 (.slice qa at'.length ca2) (at'.map fII), sl 1 (.slice qg gens.length cg) (gens.map fI)] (AliveR L) := by
  obtain ⟨hgd, hm, hits⟩ := hL
  obtain ⟨ha48, hg48, hok⟩ := id hm
  have AT := fun p => docat_any a w ca cw cs ps p hgd
  obtain ⟨N, hN⟩ : ∃ N, fstI L = N := ⟨_, rfl⟩
  have h00 : fsts [] ++ fstI L = N := by rw [hN]; unfold fsts; rfl
  have FIN : ∀ out : List (Int × Int), fsts out ++ fstI [] = N → fsts out = fstI L := fun out h => by rw [hN, ← h]; unfold fstI; simp
  (refine spec_enter Try.func6 Try.ntmps6 rfl rfl fun Fr => ?_; dsimp only [List.cons_append, List.nil_append, ini, Nat.reduceAdd])
  (repeat' (first | (apply run_qg 1; (focus rfl); (focus exact wt); (focus rfl); (focus (exact qg1))) | refine cod_seq ?_ | refine cod_region ?_ | refine run_nil ?_ | refine pst_then ?_ | refine cod_block ?_ | (apply run_osg 8; (focus rfl); (focus exact wt); (focus rfl); (focus (exact opr_box_agg rfl rfl)); (rintro _ _ ⟨b, rfl, rfl⟩))))
  refine cod_heap (heap_nil _ 38 2) ?_
  (refine cod_loop_rw (σ := Nat × List (Int × Int) × Option Addr × Nat × List use.Item) (fun x => (x.1 ≤ 48 ∧ x.2.1.length ≤ 9 * x.1) ∧ its cs ps (at'.drop x.1) (gens.drop x.1) x.1 = some x.2.2.2.2 ∧ fsts x.2.1 ++ fstI x.2.2.2.2 = N) (fun x => [(14, .int .i64 (x.1 : Int)), (6, .slice x.2.2.1 x.2.1.length x.2.2.2.1)]) (fun x => [own (.slice x.2.2.1 x.2.1.length x.2.2.2.1) 38 2 x.2.1.length (flat fII x.2.1)]) _ (fun x => 48 - x.1) ((0, [], none, 0, L)) (by exact ⟨⟨Nat.zero_le _, Nat.zero_le _⟩, hits, h00⟩) (by exact fsa) (by (first | exact HSub.of_picks_rest (by exact pca))) (fun ⟨i, out, q, c, Lr⟩ ⟨⟨hi, hol⟩, hr, hf⟩ => ?_); dsimp only [List.cons_append, List.nil_append])
  dsimp only at hi hol hr hf ⊢
  rcases Nat.lt_or_ge i 48 with hlt | hge
  · obtain ⟨p, hpi⟩ : ∃ p, at'[i]? = some p := ⟨_, List.getElem?_eq_getElem (by omega)⟩
    obtain ⟨g, hgi⟩ : ∃ g, gens[i]? = some g := ⟨_, List.getElem?_eq_getElem (by omega)⟩
    have hokp := (hok i hlt p g hpi hgi).1
    rw [its_step hpi hgi] at hr
    unfold itsOf at hr
    by_cases hp0 : p.1 = 0
    · have he : p = (0, 0) := Prod.ext hp0 (by show p.2 = 0; unfold Okay at hokp; omega)
      rw [if_pos hp0] at hr
      dsimp only at hr
      rw [← map_nil] at hr
      subst he
      (repeat' (first | (apply run_qg 1; (focus rfl); (focus exact wt); (focus rfl); (focus (exact qg1))) | (apply run_qg 2; (focus rfl); (focus exact wt); (focus rfl); (focus (first | exact qg2 | exact qs2))) | (apply run_qg 3; (focus rfl); (focus exact wt); (focus rfl); (focus (first | exact qg3 | exact qs3))) | (apply run_qg 4; (focus rfl); (focus exact wt); (focus rfl); (focus (first | exact qg4 | exact qs4))) | (apply run_qg 5; (focus rfl); (focus exact wt); (focus rfl); (focus (exact qg5))) | refine cod_seq ?_ | refine cod_region ?_ | refine run_nil ?_ | refine pst_then ?_ | (apply cod_cond_t; (focus rfl)) | refine cod_block ?_ | refine cod_skip ?_))
      refine run_qg 4 rfl wt rfl (q_veql_t (p := ((0, 0) : Int × Int)) (q := ((0, 0) : Int × Int)) rfl rfl rfl rfl) ?_
      (repeat' (first | (apply run_qg 1; (focus rfl); (focus exact wt); (focus rfl); (focus (exact qg1))) | (apply run_qg 4; (focus rfl); (focus exact wt); (focus rfl); (focus (first | exact qg4 | exact qs4))) | refine cod_region ?_ | refine run_nil ?_ | refine pst_then ?_ | (apply cod_cond_t; (focus rfl)) | refine cod_exit ?_ | refine pst_block_here ?_ | refine pst_then_exit ?_))
      refine pst_again ((i + 1, out, q, c, Lr)) ?_ (FSub.of (by (try dsimp only); exact fsa)) (by (try dsimp only); exact hsa) ?_
      · exact ⟨⟨by dsimp only; omega, by dsimp only; omega⟩, hr, hf⟩
      · dsimp only; omega
    · have hne : p ≠ (0, 0) := fun e => hp0 (by rw [e])
      rw [if_neg hp0] at hr
      cases hino : inoF cs ps p g (i : Int) with
      | none => rw [hino] at hr; cases hr
      | some l =>
        rw [hino] at hr
        dsimp only at hr
        cases hpt : partIts cs ps (i : Int) (pI l) 0 with
        | none => rw [hpt] at hr; cases hr
        | some Lq =>
          rw [hpt] at hr
          simp only [Option.map_some] at hr
          obtain ⟨L', hr1, hr2⟩ := Option.map_eq_some_iff.1 hr
          have I0 := docino_any a w qa qg ca cw ca2 cg cs ps at' gens i p g hpi hgi (by omega) hgd hino
          have hgI := (ino_text hino).2.2.2.1
          have hpf := goodI_few hgI
          have hokq := goodI_parts hgI
          rw [← hr2] at hf
          have hf1 := fsts_add (p := p) hf rfl
          have hzero : ((pI l).drop 0) = pI l := rfl
          clear hr hf hr2 FIN h00
          (repeat' (first | (apply run_qg 1; (focus rfl); (focus exact wt); (focus rfl); (focus (exact qg1))) | (apply run_qg 2; (focus rfl); (focus exact wt); (focus rfl); (focus (first | exact qg2 | exact qs2))) | (apply run_qg 3; (focus rfl); (focus exact wt); (focus rfl); (focus (first | exact qg3 | exact qs3))) | (apply run_qg 4; (focus rfl); (focus exact wt); (focus rfl); (focus (first | exact qg4 | exact qs4))) | (apply run_qg 5; (focus rfl); (focus exact wt); (focus rfl); (focus (exact qg5))) | refine cod_seq ?_ | refine cod_region ?_ | refine run_nil ?_ | refine pst_then ?_ | (apply cod_cond_t; (focus rfl)) | refine cod_block ?_ | refine cod_skip ?_))
          refine run_qg 4 rfl wt rfl (q_veql_f (p := p) (q := ((0, 0) : Int × Int)) rfl rfl rfl hne) ?_
          clear hne
          (repeat' (first | (apply run_qg 1; (focus rfl); (focus exact wt); (focus rfl); (focus (exact qg1))) | (apply run_qg 2; (focus rfl); (focus exact wt); (focus rfl); (focus (first | exact qg2 | exact qs2))) | refine cod_seq ?_ | refine cod_region ?_ | refine run_nil ?_ | refine pst_then ?_ | (apply cod_cond_f; (focus rfl)) | refine cod_skip ?_))
          (refine run_os wt rfl (opr_call_l rfl (I0) rfl (by exact lpa)) ?_; rintro _ _ ⟨_, ⟨q5, c5, rfl, rfl⟩, rfl⟩; dsimp only [List.cons_append, List.nil_append])
          (repeat' (first | (apply run_qg 1; (focus rfl); (focus exact wt); (focus rfl); (focus (exact qg1))) | (apply run_qg 2; (focus rfl); (focus exact wt); (focus rfl); (focus (first | exact qg2 | exact qs2))) | (apply run_qg 3; (focus rfl); (focus exact wt); (focus rfl); (focus (first | exact qg3 | exact qs3))) | (apply run_qg 4; (focus rfl); (focus exact wt); (focus rfl); (focus (first | exact qg4 | exact qs4))) | refine cod_seq ?_ | refine cod_region ?_ | refine run_nil ?_ | refine pst_then ?_ | (apply cod_cond_f; (focus rfl)) | refine cod_skip ?_ | (apply run_osg 8; (focus rfl); (focus exact wt); (focus rfl); (focus (exact opr_new rfl)); (rintro _ _ ⟨b, rfl, rfl⟩)) | (apply run_ong 9; (focus rfl); (focus exact wt); (focus (exact opr_store_box_agg rfl rfl rfl (by exact pka) rfl rfl rfl (by exact spla))); (rintro _ _ ⟨rfl, rfl⟩)) | (apply run_osg 10; (focus rfl); (focus exact wt); (focus rfl); (focus (exact opr_buildSlice rfl rfl rfl (by exact blda) rfl rfl (by decide) rfl)); (rintro _ _ ⟨q, rfl, rfl⟩))))
          refine run_os wt rfl (by first | exact opr_append_lit0 (fII) [p] rfl rfl rfl (by exact pka) (by rfl) (by rfl) (by intro _; rfl) (by (first | exact one_fS | exact one_fI | exact one_fB | exact one_fP | exact one_fIIS | exact one_fIIIS | exact one_fII | exact one_fSI | exact one_fIIU | exact one_fY | exact one_fBl | exact one_fT | exact one_fE | assumption)) rfl (by simp only [List.length_cons, List.length_nil]; omega) (by (unfold maxLen); simp only [List.length_cons, List.length_nil]; omega) | exact opr_append_lit (fII) [p] rfl rfl rfl (by exact pka) (by exact pka) (by rfl) (by rfl) (by first | rfl | omega) (by intro _; rfl) (by (first | exact one_fS | exact one_fI | exact one_fB | exact one_fP | exact one_fIIS | exact one_fIIIS | exact one_fII | exact one_fSI | exact one_fIIU | exact one_fY | exact one_fBl | exact one_fT | exact one_fE | assumption)) rfl (by simp only [List.length_cons, List.length_nil]; omega) (by (unfold maxLen); simp only [List.length_cons, List.length_nil]; omega)) ?_
          rintro _ _ ⟨q6, c6, rfl, rfl⟩
          (repeat' (first | (apply run_qg 1; (focus rfl); (focus exact wt); (focus rfl); (focus (exact qg1))) | (apply run_qg 2; (focus rfl); (focus exact wt); (focus rfl); (focus (first | exact qg2 | exact qs2))) | (apply run_qg 3; (focus rfl); (focus exact wt); (focus rfl); (focus (first | exact qg3 | exact qs3))) | (apply run_qg 6; (focus rfl); (focus exact wt); (focus rfl); (focus (first | exact qs6 | exact qg6 | exact q_max rfl rfl rfl | exact q_sliceData rfl rfl (by omega) | exact q_sliceDataN rfl rfl | exact q_unsafeStringN rfl rfl rfl | exact q_cap_slice rfl rfl))) | refine cod_seq ?_ | refine cod_region ?_ | refine run_nil ?_ | refine pst_then ?_ | refine cod_block ?_))
          (refine cod_loop_rw (σ := Nat × List (Int × Int) × Option Addr × Nat × List use.Item) (fun x => (x.1 ≤ (pI l).length ∧ x.2.1.length ≤ out.length + 1 + x.1) ∧ partIts cs ps (i : Int) ((pI l).drop x.1) x.1 = some x.2.2.2.2 ∧ fsts x.2.1 ++ fstI (x.2.2.2.2 ++ L') = N) (fun x => [(44, .int .i64 (x.1 : Int)), (6, .slice x.2.2.1 x.2.1.length x.2.2.2.1)]) (fun x => [own (.slice x.2.2.1 x.2.1.length x.2.2.2.1) 38 2 x.2.1.length (flat fII x.2.1)]) _ (fun x => (pI l).length - x.1) ((0, out ++ [p], q6, c6, Lq)) (by exact ⟨⟨Nat.zero_le _, by show (out ++ [p]).length ≤ _; rw [List.length_append, List.length_singleton]; omega⟩, hpt, hf1⟩) (by exact fsa) (by (first | exact HSub.of_picks_rest (by exact pca))) (fun ⟨k, out2, q2, c2, Lk⟩ ⟨⟨hk, hol2⟩, hkr, hf2⟩ => ?_); dsimp only [List.cons_append, List.nil_append])
          clear hpt hf1
          dsimp only at hk hol2 hkr hf2 ⊢
          rcases get_or (pI l) k with ⟨u, hu, hltk⟩ | hgek
          · have huo := hokq _ (List.mem_of_getElem? hu)
            unfold Okay at huo
            rw [parts_step hu] at hkr
            by_cases hu0 : u.1 = 0
            · have he : u = (0, 0) := Prod.ext hu0 (by show u.2 = 0; omega)
              rw [if_pos hu0] at hkr
              subst he
              (repeat' (first | (apply run_qg 1; (focus rfl); (focus exact wt); (focus rfl); (focus (exact qg1))) | (apply run_qg 2; (focus rfl); (focus exact wt); (focus rfl); (focus (first | exact qg2 | exact qs2))) | (apply run_qg 3; (focus rfl); (focus exact wt); (focus rfl); (focus (first | exact qg3 | exact qs3))) | (apply run_qg 4; (focus rfl); (focus exact wt); (focus rfl); (focus (first | exact qg4 | exact qs4))) | (apply run_qg 5; (focus rfl); (focus exact wt); (focus rfl); (focus (exact qg5))) | refine cod_seq ?_ | refine cod_region ?_ | refine run_nil ?_ | refine pst_then ?_ | (apply cod_cond_t; (focus rfl)) | refine cod_block ?_ | refine cod_skip ?_ | (apply run_osg 8; (focus rfl); (focus exact wt); (focus rfl); (focus (exact opr_new rfl)); (rintro _ _ ⟨b, rfl, rfl⟩)) | (apply run_ong 9; (focus rfl); (focus exact wt); (focus (exact opr_store_box_agg rfl rfl rfl (by exact pka) rfl rfl rfl (by exact spla))); (rintro _ _ ⟨rfl, rfl⟩))))
              refine run_qg 4 rfl wt rfl (q_veql_t (p := ((0, 0) : Int × Int)) (q := ((0, 0) : Int × Int)) rfl rfl rfl rfl) ?_
              (repeat' (first | (apply run_qg 1; (focus rfl); (focus exact wt); (focus rfl); (focus (exact qg1))) | (apply run_qg 4; (focus rfl); (focus exact wt); (focus rfl); (focus (first | exact qg4 | exact qs4))) | refine cod_region ?_ | refine run_nil ?_ | refine pst_then ?_ | (apply cod_cond_t; (focus rfl)) | refine cod_exit ?_ | refine pst_block_here ?_ | refine pst_then_exit ?_))
              refine pst_again ((k + 1, out2, q2, c2, Lk)) ?_ (FSub.of (by (try dsimp only); exact fsa)) (by (try dsimp only); exact hsa) ?_
              · exact ⟨⟨by dsimp only; omega, by dsimp only; omega⟩, hkr, hf2⟩
              · dsimp only; omega
            · have hne2 : u ≠ (0, 0) := fun e => hu0 (by rw [e])
              rw [if_neg hu0] at hkr
              by_cases hokp2 : (partF cs ps (i : Int) (k : Int) u).2 = 0
              · rw [if_pos hokp2] at hkr
                obtain ⟨Lk2, e1, e2⟩ := Option.map_eq_some_iff.1 hkr
                obtain ⟨s1, s2, s3, s4, s5⟩ := part_ok hokp2
                have B0 := AT u
                have hbt := blob_text cs ps u
                rw [s1, s2, s3, s4] at B0
                rw [← e2] at hf2
                have hf3 := fsts_add (p := u) hf2 rfl
                generalize (blobF cs ps u).1.2.2.2 = bt at *
                clear hkr s1 s2 s3 s4 s5 hokp2 hf2 e2
                (repeat' (first | (apply run_qg 1; (focus rfl); (focus exact wt); (focus rfl); (focus (exact qg1))) | (apply run_qg 2; (focus rfl); (focus exact wt); (focus rfl); (focus (first | exact qg2 | exact qs2))) | (apply run_qg 3; (focus rfl); (focus exact wt); (focus rfl); (focus (first | exact qg3 | exact qs3))) | (apply run_qg 4; (focus rfl); (focus exact wt); (focus rfl); (focus (first | exact qg4 | exact qs4))) | (apply run_qg 5; (focus rfl); (focus exact wt); (focus rfl); (focus (exact qg5))) | refine cod_seq ?_ | refine cod_region ?_ | refine run_nil ?_ | refine pst_then ?_ | (apply cod_cond_t; (focus rfl)) | refine cod_block ?_ | refine cod_skip ?_ | (apply run_osg 8; (focus rfl); (focus exact wt); (focus rfl); (focus (exact opr_new rfl)); (rintro _ _ ⟨b, rfl, rfl⟩)) | (apply run_ong 9; (focus rfl); (focus exact wt); (focus (exact opr_store_box_agg rfl rfl rfl (by exact pka) rfl rfl rfl (by exact spla))); (rintro _ _ ⟨rfl, rfl⟩))))
                refine run_qg 4 rfl wt rfl (q_veql_f (p := u) (q := ((0, 0) : Int × Int)) rfl rfl rfl hne2) ?_
                clear hne2
                (repeat' (first | (apply run_qg 1; (focus rfl); (focus exact wt); (focus rfl); (focus (exact qg1))) | (apply run_qg 2; (focus rfl); (focus exact wt); (focus rfl); (focus (first | exact qg2 | exact qs2))) | (apply run_qg 3; (focus rfl); (focus exact wt); (focus rfl); (focus (first | exact qg3 | exact qs3))) | (apply run_qg 4; (focus rfl); (focus exact wt); (focus rfl); (focus (first | exact qg4 | exact qs4))) | refine cod_seq ?_ | refine cod_region ?_ | refine run_nil ?_ | refine pst_then ?_ | (apply cod_cond_f; (focus rfl)) | refine cod_skip ?_ | (apply run_osg 8; (focus rfl); (focus exact wt); (focus rfl); (focus (exact opr_new rfl)); (rintro _ _ ⟨b, rfl, rfl⟩)) | (apply run_ong 9; (focus rfl); (focus exact wt); (focus (exact opr_store_box_agg rfl rfl rfl (by exact pka) rfl rfl rfl (by exact spla))); (rintro _ _ ⟨rfl, rfl⟩)) | (apply run_osg 10; (focus rfl); (focus exact wt); (focus rfl); (focus (exact opr_buildSlice rfl rfl rfl (by exact blda) rfl rfl (by decide) rfl)); (rintro _ _ ⟨q, rfl, rfl⟩)) | (apply run_osg 7; (focus rfl); (focus exact wt); (focus rfl); (focus (exact opr_call_ls (by rfl) (B0 ..) (by rfl) lpa)); (rintro _ _ ⟨rfl, rfl⟩))))
                refine run_os wt rfl (by first | exact opr_append_lit0 (fII) [u] rfl rfl rfl (by exact pka) (by rfl) (by rfl) (by intro _; rfl) (by (first | exact one_fS | exact one_fI | exact one_fB | exact one_fP | exact one_fIIS | exact one_fIIIS | exact one_fII | exact one_fSI | exact one_fIIU | exact one_fY | exact one_fBl | exact one_fT | exact one_fE | assumption)) rfl (by simp only [List.length_cons, List.length_nil]; omega) (by (unfold maxLen); simp only [List.length_cons, List.length_nil]; omega) | exact opr_append_lit (fII) [u] rfl rfl rfl (by exact pka) (by exact pka) (by rfl) (by rfl) (by first | rfl | omega) (by intro _; rfl) (by (first | exact one_fS | exact one_fI | exact one_fB | exact one_fP | exact one_fIIS | exact one_fIIIS | exact one_fII | exact one_fSI | exact one_fIIU | exact one_fY | exact one_fBl | exact one_fT | exact one_fE | assumption)) rfl (by simp only [List.length_cons, List.length_nil]; omega) (by (unfold maxLen); simp only [List.length_cons, List.length_nil]; omega)) ?_
                rintro _ _ ⟨q7, c7, rfl, rfl⟩
                (repeat' (first | (apply run_qg 1; (focus rfl); (focus exact wt); (focus rfl); (focus (exact qg1))) | (apply run_qg 4; (focus rfl); (focus exact wt); (focus rfl); (focus (first | exact qg4 | exact qs4))) | refine cod_region ?_ | refine run_nil ?_ | refine pst_then ?_ | refine pst_block ?_))
                refine pst_again ((k + 1, out2 ++ [u], q7, c7, Lk2)) ?_ (FSub.of (by (try dsimp only); exact fsa)) (by (try dsimp only); exact hsa) ?_
                · exact ⟨⟨by dsimp only; omega, by dsimp only; rw [List.length_append, List.length_singleton]; omega⟩, e1, hf3⟩
                · dsimp only; omega
              · rw [if_neg hokp2] at hkr
                cases hkr
          · have hkl : k = (pI l).length := by omega
            subst hkl
            rw [List.drop_length, partIts] at hkr
            cases hkr
            rw [List.nil_append] at hf2
            (repeat' (first | (apply run_qg 1; (focus rfl); (focus exact wt); (focus rfl); (focus (exact qg1))) | (apply run_qg 4; (focus rfl); (focus exact wt); (focus rfl); (focus (first | exact qg4 | exact qs4))) | refine cod_seq ?_ | refine cod_region ?_ | refine run_nil ?_ | refine pst_then ?_ | (apply cod_cond_f; (focus rfl)) | refine cod_exit ?_ | refine pst_block_here ?_ | refine pst_then_exit ?_ | refine pst_block ?_))
            refine pst_again ((i + 1, out2, q2, c2, L')) ?_ (FSub.of (by (try dsimp only); exact fsa)) (by (try dsimp only); exact hsa) ?_
            · exact ⟨⟨by dsimp only; omega, by dsimp only; omega⟩, hr1, hf2⟩
            · dsimp only; omega
  · have hi48 : i = 48 := by omega
    subst hi48
    have e1 : at'.drop 48 = [] := List.drop_eq_nil_of_le (by omega)
    rw [e1, its_nil] at hr
    cases hr
    have hfin := FIN out hf
    (repeat' (first | (apply run_qg 1; (focus rfl); (focus exact wt); (focus rfl); (focus (exact qg1))) | (apply run_qg 4; (focus rfl); (focus exact wt); (focus rfl); (focus (first | exact qg4 | exact qs4))) | refine cod_seq ?_ | refine cod_region ?_ | refine run_nil ?_ | refine pst_then ?_ | (apply cod_cond_f; (focus rfl)) | refine cod_exit ?_ | refine cod_ret ?_ | refine pst_block_here ?_ | refine pst_then_exit ?_))
    exact pst_fin rfl (by exact resa) _ (⟨out, q, c, ⟨hfin, by omega⟩, rfl, rfl⟩) (by exact hsa)
end Go.Proofs.Ytcbpeampjhegcaa.use
/-
  slices.ContainsFunc of places, with the closure that looks for a cell: the walks.
-/
namespace Go.Proofs.Ytcbpeampjhegcaa.lawUseOther
open Go.RowKit kit sl
set_option linter.unusedVariables false
def anyAt (k : Int) (l : List (Int × Int)) : Bool := l.any fun p => decide (p.1 = k)
theorem any_take {k : Int} {l : List (Int × Int)} {i : Nat} {p : Int × Int} (h : l[i]? = some p) : anyAt k (l.take (i + 1)) = (anyAt k (l.take i) || decide (p.1 = k)) := by
  unfold anyAt
  rw [List.take_add_one, h, List.any_append]
  simp
theorem any_more {k : Int} {l : List (Int × Int)} {i : Nat} (h : anyAt k (l.take i) = true) : anyAt k l = true := by
  unfold anyAt at h ⊢
  obtain ⟨x, hx, h2⟩ := List.any_eq_true.1 h
  exact List.any_eq_true.2 ⟨x, List.mem_of_mem_take hx, h2⟩
attribute [local irreducible] box own sl old bptr eptr Qt Opr Run Cod Pst Drn
attribute [local irreducible] anyAt
set_option maxRecDepth 100000 in
set_option maxHeartbeats 8000000 in
theorem clos_any (b : Nat) (k : Int) (p : Int × Int) : Ct Try.prog 8 [.agg #[.int .i64 p.1, .int .i64 p.2], bptr b 0] [box b [.int .i64 k] 3] fun v H' => v = .bool (decide (p.1 = k)) ∧ H' = [box b [.int .i64 k] 3] := by
  by_cases h : p.1 = k
  · rw [decide_eq_true h]
    (refine spec_enter Try.func8 Try.ntmps8 rfl rfl fun Fr => ?_; dsimp only [List.cons_append, List.nil_append, ini, Nat.reduceAdd])
    (repeat' (first | (apply run_qg 1; (focus rfl); (focus exact wt); (focus rfl); (focus (exact qg1))) | (apply run_qg 2; (focus rfl); (focus exact wt); (focus rfl); (focus (first | exact qg2 | exact qs2))) | (apply run_qg 3; (focus rfl); (focus exact wt); (focus rfl); (focus (first | exact qg3 | exact qs3))) | (apply run_qg 4; (focus rfl); (focus exact wt); (focus rfl); (focus (first | exact qg4 | exact qs4))) | refine cod_seq ?_ | refine cod_region ?_ | refine run_nil ?_ | refine pst_then ?_ | refine cod_ret ?_ | (apply run_osg 8; (focus rfl); (focus exact wt); (focus rfl); (focus (exact opr_box_agg rfl rfl)); (rintro _ _ ⟨b, rfl, rfl⟩))))
    exact pst_fin rfl (by exact resa) _ (⟨rfl, rfl⟩) (by exact hsa)
  · rw [decide_eq_false h]
    (refine spec_enter Try.func8 Try.ntmps8 rfl rfl fun Fr => ?_; dsimp only [List.cons_append, List.nil_append, ini, Nat.reduceAdd])
    (repeat' (first | (apply run_qg 1; (focus rfl); (focus exact wt); (focus rfl); (focus (exact qg1))) | (apply run_qg 2; (focus rfl); (focus exact wt); (focus rfl); (focus (first | exact qg2 | exact qs2))) | (apply run_qg 3; (focus rfl); (focus exact wt); (focus rfl); (focus (first | exact qg3 | exact qs3))) | (apply run_qg 4; (focus rfl); (focus exact wt); (focus rfl); (focus (first | exact qg4 | exact qs4))) | refine cod_seq ?_ | refine cod_region ?_ | refine run_nil ?_ | refine pst_then ?_ | refine cod_ret ?_ | (apply run_osg 8; (focus rfl); (focus exact wt); (focus rfl); (focus (exact opr_box_agg rfl rfl)); (rintro _ _ ⟨b, rfl, rfl⟩))))
    exact pst_fin rfl (by exact resa) _ (⟨rfl, rfl⟩) (by exact hsa)
def IxR (b : Nat) (k : Int) (l : List (Int × Int)) (v : Value) (H' : List Ent) : Prop := ∃ i : Int, (0 ≤ i ↔ anyAt k l = true) ∧ v = .int .i64 i ∧ H' = [box b [.int .i64 k] 3]
set_option maxRecDepth 100000 in
set_option maxHeartbeats 8000000 in
theorem index_any (q : Option Addr) (c b : Nat) (k : Int) (l : List (Int × Int)) (hl : l.length ≤ 1000000) :
    Ct Try.prog 17 [.slice q l.length c, .func (.func 8) #[] #[bptr b 0]] [sl 2 (.slice q l.length c) (l.map fII), box b [.int .i64 k] 3] (IxR b k l) := by
  have NO : anyAt k (l.take l.length) = false → IxR b k l (.int .i64 (-1)) [box b [.int .i64 k] 3] := fun h => ⟨-1, by rw [List.take_length] at h; rw [h]; simp, rfl, rfl⟩
  have YES : ∀ i : Nat, anyAt k (l.take (i + 1)) = true → IxR b k l (.int .i64 (i : Int)) [box b [.int .i64 k] 3] := fun i h => ⟨(i : Int), by rw [any_more h]; simp, rfl, rfl⟩
  have h0 : anyAt k (l.take 0) = false := by unfold anyAt; rfl
  refine spec_mono (R := IxR b k l) ?_ fun _ _ h => h
  (refine spec_enter Try.func17 Try.ntmps17 rfl rfl fun Fr => ?_; dsimp only [List.cons_append, List.nil_append, ini, Nat.reduceAdd])
  (repeat' (first | (apply run_qg 1; (focus rfl); (focus exact wt); (focus rfl); (focus (exact qg1))) | (apply run_qg 6; (focus rfl); (focus exact wt); (focus rfl); (focus (first | exact qs6 | exact qg6 | exact q_max rfl rfl rfl | exact q_sliceData rfl rfl (by omega) | exact q_sliceDataN rfl rfl | exact q_unsafeStringN rfl rfl rfl | exact q_cap_slice rfl rfl))) | refine cod_seq ?_ | refine cod_region ?_ | refine run_nil ?_ | refine pst_then ?_ | refine cod_block ?_))
  (refine cod_loop_ro (σ := Nat) (fun i => i ≤ l.length ∧ anyAt k (l.take i) = false) (fun i => [(8, .int .i64 (i : Int))]) (fun i => l.length - i) (0) (by exact ⟨Nat.zero_le _, h0⟩) (by exact fsa) (fun i ⟨hi, ha⟩ => ?_); dsimp only [List.cons_append, List.nil_append])
  rcases get_or l i with ⟨p, hp, hlt⟩ | hge
  · have C0 := clos_any b k p
    have hn := any_take (k := k) hp
    rw [ha, Bool.false_or] at hn
    cases hd : decide (p.1 = k) with
    | true =>
      rw [hd] at C0 hn
      have hy := YES i hn
      clear NO YES h0 ha
      (repeat' (first | (apply run_qg 1; (focus rfl); (focus exact wt); (focus rfl); (focus (exact qg1))) | (apply run_qg 2; (focus rfl); (focus exact wt); (focus rfl); (focus (first | exact qg2 | exact qs2))) | (apply run_qg 3; (focus rfl); (focus exact wt); (focus rfl); (focus (first | exact qg3 | exact qs3))) | (apply run_qg 4; (focus rfl); (focus exact wt); (focus rfl); (focus (first | exact qg4 | exact qs4))) | refine cod_seq ?_ | refine cod_region ?_ | refine run_nil ?_ | refine pst_then ?_ | (apply cod_cond_t; (focus rfl)) | refine cod_block ?_ | refine cod_skip ?_))
      refine run_os wt rfl (opr_callv_l (first := []) (cap := [bptr b 0]) rfl rfl rfl C0 rfl lpa) ?_
      rintro _ _ ⟨_, ⟨rfl, rfl⟩, rfl⟩
      dsimp only [List.cons_append, List.nil_append]
      (repeat' (first | (apply run_qg 1; (focus rfl); (focus exact wt); (focus rfl); (focus (exact qg1))) | refine cod_seq ?_ | refine cod_region ?_ | refine run_nil ?_ | refine pst_then ?_ | (apply cod_cond_t; (focus rfl)) | refine cod_ret ?_ | refine pst_block_ret ?_ | refine pst_then_ret ?_))
      exact pst_fin rfl (by exact resa) _ (hy) (by exact hsa)
    | false =>
      rw [hd] at C0 hn
      clear NO YES h0 ha
      (repeat' (first | (apply run_qg 1; (focus rfl); (focus exact wt); (focus rfl); (focus (exact qg1))) | (apply run_qg 2; (focus rfl); (focus exact wt); (focus rfl); (focus (first | exact qg2 | exact qs2))) | (apply run_qg 3; (focus rfl); (focus exact wt); (focus rfl); (focus (first | exact qg3 | exact qs3))) | (apply run_qg 4; (focus rfl); (focus exact wt); (focus rfl); (focus (first | exact qg4 | exact qs4))) | refine cod_seq ?_ | refine cod_region ?_ | refine run_nil ?_ | refine pst_then ?_ | (apply cod_cond_t; (focus rfl)) | refine cod_block ?_ | refine cod_skip ?_))
      refine run_os wt rfl (opr_callv_l (first := []) (cap := [bptr b 0]) rfl rfl rfl C0 rfl lpa) ?_
      rintro _ _ ⟨_, ⟨rfl, rfl⟩, rfl⟩
      dsimp only [List.cons_append, List.nil_append]
      (repeat' (first | (apply run_qg 1; (focus rfl); (focus exact wt); (focus rfl); (focus (exact qg1))) | (apply run_qg 4; (focus rfl); (focus exact wt); (focus rfl); (focus (first | exact qg4 | exact qs4))) | refine cod_region ?_ | refine run_nil ?_ | refine pst_then ?_ | (apply cod_cond_f; (focus rfl)) | refine cod_skip ?_ | refine pst_block ?_))
      refine pst_again (i + 1) ?_ (FSub.of (by (try dsimp only); exact fsa)) (by (try dsimp only); exact hsa) ?_
      · exact ⟨hlt, hn⟩
      · omega
  · have hil : i = l.length := by omega
    subst hil
    have hn := NO ha
    clear NO YES h0
    (repeat' (first | (apply run_qg 1; (focus rfl); (focus exact wt); (focus rfl); (focus (exact qg1))) | (apply run_qg 4; (focus rfl); (focus exact wt); (focus rfl); (focus (first | exact qg4 | exact qs4))) | refine cod_seq ?_ | refine cod_region ?_ | refine run_nil ?_ | refine pst_then ?_ | (apply cod_cond_f; (focus rfl)) | refine cod_exit ?_ | refine cod_ret ?_ | refine pst_block_here ?_ | refine pst_then_exit ?_))
    exact pst_fin rfl (by exact resa) _ (hn) (by exact hsa)
set_option maxRecDepth 100000 in
set_option maxHeartbeats 8000000 in
theorem contains_any (q : Option Addr) (c b : Nat) (k : Int) (l : List (Int × Int)) (hl : l.length ≤ 1000000) :
    Ct Try.prog 7 [.slice q l.length c, .func (.func 8) #[] #[bptr b 0]] [sl 2 (.slice q l.length c) (l.map fII), box b [.int .i64 k] 3] fun v H' => v = .bool (anyAt k l) ∧ H' = [box b [.int .i64 k] 3] := by
  have IX := index_any q c b k l hl
  unfold IxR at IX
  (refine spec_enter Try.func7 Try.ntmps7 rfl rfl fun Fr => ?_; dsimp only [List.cons_append, List.nil_append, ini, Nat.reduceAdd])
  (repeat' (first | (apply run_qg 1; (focus rfl); (focus exact wt); (focus rfl); (focus (exact qg1))) | refine cod_seq ?_ | refine cod_region ?_ | refine run_nil ?_ | refine pst_then ?_))
  (refine run_os wt rfl (opr_call_l rfl (IX) rfl (by exact lpa)) ?_; rintro _ _ ⟨_, ⟨i, hi, rfl, rfl⟩, rfl⟩; dsimp only [List.cons_append, List.nil_append])
  cases ha : anyAt k l with
  | true =>
    have h1 := hi.2 ha
    clear hi
    (repeat' (first | (apply run_qg 1; (focus rfl); (focus exact wt); (focus rfl); (focus (exact qg1))) | (apply run_qg 4; (focus rfl); (focus exact wt); (focus rfl); (focus (first | exact qg4 | exact qs4))) | refine run_nil ?_ | refine pst_then ?_ | refine cod_ret ?_))
    exact pst_fin rfl (by exact resa) _ (⟨rfl, rfl⟩) (by exact hsa)
  | false =>
    have h1 : ¬ 0 ≤ i := fun h => by have := hi.1 h; rw [ha] at this; cases this
    clear hi
    (repeat' (first | (apply run_qg 1; (focus rfl); (focus exact wt); (focus rfl); (focus (exact qg1))) | (apply run_qg 4; (focus rfl); (focus exact wt); (focus rfl); (focus (first | exact qg4 | exact qs4))) | refine run_nil ?_ | refine pst_then ?_ | refine cod_ret ?_))
    exact pst_fin rfl (by exact resa) _ (⟨rfl, rfl⟩) (by exact hsa)
end Go.Proofs.Ytcbpeampjhegcaa.lawUseOther
/-
  disk: Write, landed, Sync: the walks; what is read afterwards.
-/
namespace Go.Proofs.Ytcbpeampjhegcaa.disk
open Go.RowKit kit sl
set_option linter.unusedVariables false
attribute [local irreducible] box own sl old bptr eptr Qt Opr Run Cod Pst Drn
def noDisk : Value := .agg #[.slice none 0 0, .slice none 0 0]
/-- what a function hands back that makes a disk, and the memory of it -/
def NewDisk (cs : List ByteArray) (ps : List (Int × ByteArray)) (v : Value) (H' : List Ent) : Prop :=
  ∃ qa ca qw cw, v = .tuple #[.agg #[.slice qa cs.length ca, .slice qw ps.length cw], .int .i64 0] ∧ H' = [own (.slice qa cs.length ca) 9 1 cs.length (flat fS cs), own (.slice qw ps.length cw) 63 2 ps.length (flat fP ps)]
def DiskOr (e : Int) (cs : List ByteArray) (ps : List (Int × ByteArray)) (v : Value) (H' : List Ent) : Prop :=
  (e ≠ 0 ∧ v = .tuple #[noDisk, .int .i64 e] ∧ H' = []) ∨ (e = 0 ∧ NewDisk cs ps v H')
/-- disk.Write: what goes wrong -/
def writeE (cs : List ByteArray) (ps : List (Int × ByteArray)) (at' : Int) (text : ByteArray) : Int :=
  if checkD cs ps ≠ 0 then checkD cs ps else if putErr cs.length at' text ≠ 0 then putErr cs.length at' text else if ps.length = 400 then 9 else 0
set_option maxRecDepth 100000 in
set_option maxHeartbeats 8000000 in
theorem write_any (a w : Option Addr) (ca cw : Nat) (cs : List ByteArray) (ps : List (Int × ByteArray)) (at' : Int) (text : ByteArray) (hc : cs.length ≤ maxLen) (hp : ps.length ≤ maxLen) :
    Ct Try.prog 9 [.agg #[.slice a cs.length ca, .slice w ps.length cw], .int .i64 at', .string text] [sl 1 (.slice a cs.length ca) (cs.map fS), sl 2 (.slice w ps.length cw) (ps.map fP)] (DiskOr (writeE cs ps at' text) cs (ps ++ [(at', text)])) := by
  have CK := check_any a w ca cw cs ps hc hp
  by_cases h0 : checkD cs ps = 0
  · have hg := good_of h0
    have hn := hg.n1
    have hl := hg.wait
    rw [h0] at CK
    by_cases h1 : putErr cs.length at' text = 0
    · have PT := put_any cs.length at' text
      rw [h1] at PT
      have LK := like_any a w ca cw cs ps (by omega) (by omega)
      (refine spec_enter Try.func9 Try.ntmps9 rfl rfl fun Fr => ?_; dsimp only [List.cons_append, List.nil_append, ini, Nat.reduceAdd])
      (repeat' (first | (first | (apply run_qg 1; (focus rfl); (focus exact wt); (focus rfl); (focus (exact qg1))) | (apply run_qg 2; (focus rfl); (focus exact wt); (focus rfl); (focus (exact qg2))) | (apply run_qg 3; (focus rfl); (focus exact wt); (focus rfl); (focus (exact qg3))) | (apply run_qg 4; (focus rfl); (focus exact wt); (focus rfl); (focus (exact qg4))) | (apply run_qg 5; (focus rfl); (focus exact wt); (focus rfl); (focus (exact qg5))) | (apply run_qg 6; (focus rfl); (focus exact wt); (focus rfl); (focus (exact qg6))) | refine cod_seq ?_ | refine cod_region ?_ | refine run_nil ?_ | refine pst_then ?_ | (apply cod_cond_t; (focus rfl)) | (apply cod_cond_f; (focus rfl)) | refine cod_block ?_ | refine cod_exit ?_ | refine cod_ret ?_ | refine cod_skip ?_ | refine pst_block_here ?_ | refine pst_block_out rfl ?_ | refine pst_block_ret ?_ | refine pst_then_exit ?_ | refine pst_then_ret ?_ | refine pst_block ?_ | (apply run_osg 8; (focus rfl); (focus exact wt); (focus rfl); (focus (exact opr_box_agg rfl rfl)); (rintro _ _ ⟨b, rfl, rfl⟩)) | (apply run_osg 8; (focus rfl); (focus exact wt); (focus rfl); (focus (exact opr_box_one rfl rfl rfl)); (rintro _ _ ⟨b, rfl, rfl⟩)) | (apply run_osg 8; (focus rfl); (focus exact wt); (focus rfl); (focus (exact opr_new rfl)); (rintro _ _ ⟨b, rfl, rfl⟩)) | (apply run_ong 9; (focus rfl); (focus exact wt); (focus (exact opr_store_box_agg rfl rfl rfl (by exact pka) rfl rfl rfl (by exact spla))); (rintro _ _ ⟨rfl, rfl⟩)) | (apply run_ong 9; (focus rfl); (focus exact wt); (focus (exact opr_store_box_one rfl rfl rfl rfl (by exact pka) rfl (by exact seta))); (rintro _ _ ⟨rfl, rfl⟩)) | (apply run_osg 10; (focus rfl); (focus exact wt); (focus rfl); (focus (exact opr_buildSlice rfl rfl rfl (by exact blda) rfl rfl (by decide) rfl)); (rintro _ _ ⟨q, rfl, rfl⟩)) | (apply run_offs; (focus rfl); (focus rfl); (focus rfl)) | (apply run_offn; (focus rfl); (focus rfl))) | (apply run_osg 7; (focus rfl); (focus exact wt); (focus rfl); (focus (first | exact opr_call_ls (by rfl) (CK ..) (by rfl) (by exact lpa) | exact opr_call_s (by rfl) (CK ..) (by rfl) (by exact pca))); (rintro _ _ ⟨rfl, rfl⟩)) | (apply run_osg 7; (focus rfl); (focus exact wt); (focus rfl); (focus (first | exact opr_call_ls (by rfl) (PT ..) (by rfl) (by exact lpa) | exact opr_call_s (by rfl) (PT ..) (by rfl) (by exact pca))); (rintro _ _ ⟨rfl, rfl⟩)) | ((first | (apply run_lss; (rotate_left 2); (focus rfl)) | (apply run_leq; (rotate_left 2); (focus rfl)) | (apply run_gtr; (rotate_left 2); (focus rfl)) | (apply run_geq; (rotate_left 2); (focus rfl)) | (apply run_eql; (rotate_left 2); (focus rfl)) | (apply run_neq; (rotate_left 2); (focus rfl)) | (apply run_seq; (rotate_left 2); (focus rfl)) | (apply run_sneq; (rotate_left 2); (focus rfl))); (focus rfl); (focus rfl); (rotate_right 2); (focus exact wt); (focus rfl); (all_goals (intro h; dsimp only [upd])))))
      · exact pst_fin rfl (by exact resa) _ (.inl ⟨by unfold writeE; rw [if_neg (by simp [h0]), if_neg (by simp [h1]), if_pos (by omega)]; simp, by unfold writeE; rw [if_neg (by simp [h0]), if_neg (by simp [h1]), if_pos (by omega)]; rfl, rfl⟩) (by exact hsa)
      refine run_os wt rfl (opr_call rfl (LK) rfl (by exact pca)) ?_
      rintro _ _ ⟨_, ⟨qa, ca', qw, cw', rfl, rfl⟩, rfl⟩
      dsimp only [List.cons_append, List.nil_append]
      (repeat' (first | (first | (apply run_qg 1; (focus rfl); (focus exact wt); (focus rfl); (focus (exact qg1))) | (apply run_qg 2; (focus rfl); (focus exact wt); (focus rfl); (focus (exact qg2))) | (apply run_qg 3; (focus rfl); (focus exact wt); (focus rfl); (focus (exact qg3))) | (apply run_qg 4; (focus rfl); (focus exact wt); (focus rfl); (focus (exact qg4))) | (apply run_qg 5; (focus rfl); (focus exact wt); (focus rfl); (focus (exact qg5))) | (apply run_qg 6; (focus rfl); (focus exact wt); (focus rfl); (focus (exact qg6))) | refine cod_seq ?_ | refine cod_region ?_ | refine run_nil ?_ | refine pst_then ?_ | (apply cod_cond_t; (focus rfl)) | (apply cod_cond_f; (focus rfl)) | refine cod_block ?_ | refine cod_exit ?_ | refine cod_ret ?_ | refine cod_skip ?_ | refine pst_block_here ?_ | refine pst_block_out rfl ?_ | refine pst_block_ret ?_ | refine pst_then_exit ?_ | refine pst_then_ret ?_ | refine pst_block ?_ | (apply run_osg 8; (focus rfl); (focus exact wt); (focus rfl); (focus (exact opr_box_agg rfl rfl)); (rintro _ _ ⟨b, rfl, rfl⟩)) | (apply run_osg 8; (focus rfl); (focus exact wt); (focus rfl); (focus (exact opr_box_one rfl rfl rfl)); (rintro _ _ ⟨b, rfl, rfl⟩)) | (apply run_osg 8; (focus rfl); (focus exact wt); (focus rfl); (focus (exact opr_new rfl)); (rintro _ _ ⟨b, rfl, rfl⟩)) | (apply run_ong 9; (focus rfl); (focus exact wt); (focus (exact opr_store_box_agg rfl rfl rfl (by exact pka) rfl rfl rfl (by exact spla))); (rintro _ _ ⟨rfl, rfl⟩)) | (apply run_ong 9; (focus rfl); (focus exact wt); (focus (exact opr_store_box_one rfl rfl rfl rfl (by exact pka) rfl (by exact seta))); (rintro _ _ ⟨rfl, rfl⟩)) | (apply run_osg 10; (focus rfl); (focus exact wt); (focus rfl); (focus (exact opr_buildSlice rfl rfl rfl (by exact blda) rfl rfl (by decide) rfl)); (rintro _ _ ⟨q, rfl, rfl⟩)) | (apply run_offs; (focus rfl); (focus rfl); (focus rfl)) | (apply run_offn; (focus rfl); (focus rfl))) | ((first | (apply run_lss; (rotate_left 2); (focus rfl)) | (apply run_leq; (rotate_left 2); (focus rfl)) | (apply run_gtr; (rotate_left 2); (focus rfl)) | (apply run_geq; (rotate_left 2); (focus rfl)) | (apply run_eql; (rotate_left 2); (focus rfl)) | (apply run_neq; (rotate_left 2); (focus rfl)) | (apply run_seq; (rotate_left 2); (focus rfl)) | (apply run_sneq; (rotate_left 2); (focus rfl))); (focus rfl); (focus rfl); (rotate_right 2); (focus exact wt); (focus rfl); (all_goals (intro h; dsimp only [upd])))))
      (refine run_os wt (by rfl) (by first | exact opr_append_lit0 (fP) [(at', text)] rfl rfl rfl (by exact pka) (by rfl) (by rfl) (by intro _; rfl) (by (first | exact one_fS | exact one_fI | exact one_fB | exact one_fP | exact one_fIIS | exact one_fIIIS | exact one_fII | exact one_fSI | exact one_fIIU | exact one_fY | exact one_fBl | exact one_fT | exact one_fE | assumption)) rfl (by simp only [List.length_cons, List.length_nil]; omega) (by (unfold maxLen); simp only [List.length_cons, List.length_nil]; omega) | exact opr_append_lit (fP) [(at', text)] rfl rfl rfl (by exact pka) (by exact pka) (by rfl) (by rfl) (by first | rfl | omega) (by intro _; rfl) (by (first | exact one_fS | exact one_fI | exact one_fB | exact one_fP | exact one_fIIS | exact one_fIIIS | exact one_fII | exact one_fSI | exact one_fIIU | exact one_fY | exact one_fBl | exact one_fT | exact one_fE | assumption)) rfl (by simp only [List.length_cons, List.length_nil]; omega) (by (unfold maxLen); simp only [List.length_cons, List.length_nil]; omega)) ?_; rintro _ _ ⟨q2, c2, rfl, rfl⟩)
      (repeat' (first | (first | (apply run_qg 1; (focus rfl); (focus exact wt); (focus rfl); (focus (exact qg1))) | (apply run_qg 2; (focus rfl); (focus exact wt); (focus rfl); (focus (exact qg2))) | (apply run_qg 3; (focus rfl); (focus exact wt); (focus rfl); (focus (exact qg3))) | (apply run_qg 4; (focus rfl); (focus exact wt); (focus rfl); (focus (exact qg4))) | (apply run_qg 5; (focus rfl); (focus exact wt); (focus rfl); (focus (exact qg5))) | (apply run_qg 6; (focus rfl); (focus exact wt); (focus rfl); (focus (exact qg6))) | refine cod_seq ?_ | refine cod_region ?_ | refine run_nil ?_ | refine pst_then ?_ | (apply cod_cond_t; (focus rfl)) | (apply cod_cond_f; (focus rfl)) | refine cod_block ?_ | refine cod_exit ?_ | refine cod_ret ?_ | refine cod_skip ?_ | refine pst_block_here ?_ | refine pst_block_out rfl ?_ | refine pst_block_ret ?_ | refine pst_then_exit ?_ | refine pst_then_ret ?_ | refine pst_block ?_ | (apply run_osg 8; (focus rfl); (focus exact wt); (focus rfl); (focus (exact opr_box_agg rfl rfl)); (rintro _ _ ⟨b, rfl, rfl⟩)) | (apply run_osg 8; (focus rfl); (focus exact wt); (focus rfl); (focus (exact opr_box_one rfl rfl rfl)); (rintro _ _ ⟨b, rfl, rfl⟩)) | (apply run_osg 8; (focus rfl); (focus exact wt); (focus rfl); (focus (exact opr_new rfl)); (rintro _ _ ⟨b, rfl, rfl⟩)) | (apply run_ong 9; (focus rfl); (focus exact wt); (focus (exact opr_store_box_agg rfl rfl rfl (by exact pka) rfl rfl rfl (by exact spla))); (rintro _ _ ⟨rfl, rfl⟩)) | (apply run_ong 9; (focus rfl); (focus exact wt); (focus (exact opr_store_box_one rfl rfl rfl rfl (by exact pka) rfl (by exact seta))); (rintro _ _ ⟨rfl, rfl⟩)) | (apply run_osg 10; (focus rfl); (focus exact wt); (focus rfl); (focus (exact opr_buildSlice rfl rfl rfl (by exact blda) rfl rfl (by decide) rfl)); (rintro _ _ ⟨q, rfl, rfl⟩)) | (apply run_offs; (focus rfl); (focus rfl); (focus rfl)) | (apply run_offn; (focus rfl); (focus rfl))) | ((first | (apply run_lss; (rotate_left 2); (focus rfl)) | (apply run_leq; (rotate_left 2); (focus rfl)) | (apply run_gtr; (rotate_left 2); (focus rfl)) | (apply run_geq; (rotate_left 2); (focus rfl)) | (apply run_eql; (rotate_left 2); (focus rfl)) | (apply run_neq; (rotate_left 2); (focus rfl)) | (apply run_seq; (rotate_left 2); (focus rfl)) | (apply run_sneq; (rotate_left 2); (focus rfl))); (focus rfl); (focus rfl); (rotate_right 2); (focus exact wt); (focus rfl); (all_goals (intro h; dsimp only [upd])))))
      exact pst_fin rfl (by exact resa) _ (.inr ⟨by unfold writeE; rw [if_neg (by simp [h0]), if_neg (by simp [h1]), if_neg (by omega)], _, _, _, _, rfl, rfl⟩) (by exact hsa)
    · (refine spec_enter Try.func9 Try.ntmps9 rfl rfl fun Fr => ?_; dsimp only [List.cons_append, List.nil_append, ini, Nat.reduceAdd])
      (repeat' (first | (first | (apply run_qg 1; (focus rfl); (focus exact wt); (focus rfl); (focus (exact qg1))) | (apply run_qg 2; (focus rfl); (focus exact wt); (focus rfl); (focus (exact qg2))) | (apply run_qg 3; (focus rfl); (focus exact wt); (focus rfl); (focus (exact qg3))) | (apply run_qg 4; (focus rfl); (focus exact wt); (focus rfl); (focus (exact qg4))) | (apply run_qg 5; (focus rfl); (focus exact wt); (focus rfl); (focus (exact qg5))) | (apply run_qg 6; (focus rfl); (focus exact wt); (focus rfl); (focus (exact qg6))) | refine cod_seq ?_ | refine cod_region ?_ | refine run_nil ?_ | refine pst_then ?_ | (apply cod_cond_t; (focus rfl)) | (apply cod_cond_f; (focus rfl)) | refine cod_block ?_ | refine cod_exit ?_ | refine cod_ret ?_ | refine cod_skip ?_ | refine pst_block_here ?_ | refine pst_block_out rfl ?_ | refine pst_block_ret ?_ | refine pst_then_exit ?_ | refine pst_then_ret ?_ | refine pst_block ?_ | (apply run_osg 8; (focus rfl); (focus exact wt); (focus rfl); (focus (exact opr_box_agg rfl rfl)); (rintro _ _ ⟨b, rfl, rfl⟩)) | (apply run_osg 8; (focus rfl); (focus exact wt); (focus rfl); (focus (exact opr_box_one rfl rfl rfl)); (rintro _ _ ⟨b, rfl, rfl⟩)) | (apply run_osg 8; (focus rfl); (focus exact wt); (focus rfl); (focus (exact opr_new rfl)); (rintro _ _ ⟨b, rfl, rfl⟩)) | (apply run_ong 9; (focus rfl); (focus exact wt); (focus (exact opr_store_box_agg rfl rfl rfl (by exact pka) rfl rfl rfl (by exact spla))); (rintro _ _ ⟨rfl, rfl⟩)) | (apply run_ong 9; (focus rfl); (focus exact wt); (focus (exact opr_store_box_one rfl rfl rfl rfl (by exact pka) rfl (by exact seta))); (rintro _ _ ⟨rfl, rfl⟩)) | (apply run_osg 10; (focus rfl); (focus exact wt); (focus rfl); (focus (exact opr_buildSlice rfl rfl rfl (by exact blda) rfl rfl (by decide) rfl)); (rintro _ _ ⟨q, rfl, rfl⟩)) | (apply run_offs; (focus rfl); (focus rfl); (focus rfl)) | (apply run_offn; (focus rfl); (focus rfl))) | (apply run_osg 7; (focus rfl); (focus exact wt); (focus rfl); (focus (first | exact opr_call_ls (by rfl) (CK ..) (by rfl) (by exact lpa) | exact opr_call_s (by rfl) (CK ..) (by rfl) (by exact pca))); (rintro _ _ ⟨rfl, rfl⟩)) | (apply run_osg 7; (focus rfl); (focus exact wt); (focus rfl); (focus (first | exact opr_call_ls (by rfl) (put_any ..) (by rfl) (by exact lpa) | exact opr_call_s (by rfl) (put_any ..) (by rfl) (by exact pca))); (rintro _ _ ⟨rfl, rfl⟩)) | ((first | (apply run_lss; (rotate_left 2); (focus rfl)) | (apply run_leq; (rotate_left 2); (focus rfl)) | (apply run_gtr; (rotate_left 2); (focus rfl)) | (apply run_geq; (rotate_left 2); (focus rfl)) | (apply run_eql; (rotate_left 2); (focus rfl)) | (apply run_neq; (rotate_left 2); (focus rfl)) | (apply run_seq; (rotate_left 2); (focus rfl)) | (apply run_sneq; (rotate_left 2); (focus rfl))); (focus rfl); (focus rfl); (rotate_right 2); (focus exact wt); (focus rfl); (all_goals (intro h; dsimp only [upd])))))
      exact pst_fin rfl (by exact resa) _ (.inl ⟨by unfold writeE; rw [if_neg (by simp [h0]), if_pos h1]; exact h1, by unfold writeE; rw [if_neg (by simp [h0]), if_pos h1]; rfl, rfl⟩) (by exact hsa)
  · (refine spec_enter Try.func9 Try.ntmps9 rfl rfl fun Fr => ?_; dsimp only [List.cons_append, List.nil_append, ini, Nat.reduceAdd])
    (repeat' (first | (first | (apply run_qg 1; (focus rfl); (focus exact wt); (focus rfl); (focus (exact qg1))) | (apply run_qg 2; (focus rfl); (focus exact wt); (focus rfl); (focus (exact qg2))) | (apply run_qg 3; (focus rfl); (focus exact wt); (focus rfl); (focus (exact qg3))) | (apply run_qg 4; (focus rfl); (focus exact wt); (focus rfl); (focus (exact qg4))) | (apply run_qg 5; (focus rfl); (focus exact wt); (focus rfl); (focus (exact qg5))) | (apply run_qg 6; (focus rfl); (focus exact wt); (focus rfl); (focus (exact qg6))) | refine cod_seq ?_ | refine cod_region ?_ | refine run_nil ?_ | refine pst_then ?_ | (apply cod_cond_t; (focus rfl)) | (apply cod_cond_f; (focus rfl)) | refine cod_block ?_ | refine cod_exit ?_ | refine cod_ret ?_ | refine cod_skip ?_ | refine pst_block_here ?_ | refine pst_block_out rfl ?_ | refine pst_block_ret ?_ | refine pst_then_exit ?_ | refine pst_then_ret ?_ | refine pst_block ?_ | (apply run_osg 8; (focus rfl); (focus exact wt); (focus rfl); (focus (exact opr_box_agg rfl rfl)); (rintro _ _ ⟨b, rfl, rfl⟩)) | (apply run_osg 8; (focus rfl); (focus exact wt); (focus rfl); (focus (exact opr_box_one rfl rfl rfl)); (rintro _ _ ⟨b, rfl, rfl⟩)) | (apply run_osg 8; (focus rfl); (focus exact wt); (focus rfl); (focus (exact opr_new rfl)); (rintro _ _ ⟨b, rfl, rfl⟩)) | (apply run_ong 9; (focus rfl); (focus exact wt); (focus (exact opr_store_box_agg rfl rfl rfl (by exact pka) rfl rfl rfl (by exact spla))); (rintro _ _ ⟨rfl, rfl⟩)) | (apply run_ong 9; (focus rfl); (focus exact wt); (focus (exact opr_store_box_one rfl rfl rfl rfl (by exact pka) rfl (by exact seta))); (rintro _ _ ⟨rfl, rfl⟩)) | (apply run_osg 10; (focus rfl); (focus exact wt); (focus rfl); (focus (exact opr_buildSlice rfl rfl rfl (by exact blda) rfl rfl (by decide) rfl)); (rintro _ _ ⟨q, rfl, rfl⟩)) | (apply run_offs; (focus rfl); (focus rfl); (focus rfl)) | (apply run_offn; (focus rfl); (focus rfl))) | (apply run_osg 7; (focus rfl); (focus exact wt); (focus rfl); (focus (first | exact opr_call_ls (by rfl) (CK ..) (by rfl) (by exact lpa) | exact opr_call_s (by rfl) (CK ..) (by rfl) (by exact pca))); (rintro _ _ ⟨rfl, rfl⟩)) | ((first | (apply run_lss; (rotate_left 2); (focus rfl)) | (apply run_leq; (rotate_left 2); (focus rfl)) | (apply run_gtr; (rotate_left 2); (focus rfl)) | (apply run_geq; (rotate_left 2); (focus rfl)) | (apply run_eql; (rotate_left 2); (focus rfl)) | (apply run_neq; (rotate_left 2); (focus rfl)) | (apply run_seq; (rotate_left 2); (focus rfl)) | (apply run_sneq; (rotate_left 2); (focus rfl))); (focus rfl); (focus rfl); (rotate_right 2); (focus exact wt); (focus rfl); (all_goals (intro h; dsimp only [upd])))))
    exact pst_fin rfl (by exact resa) _ (.inl ⟨by unfold writeE; rw [if_pos h0]; exact h0, by unfold writeE; rw [if_pos h0]; rfl, rfl⟩) (by exact hsa)
/-- the cells, the writes of ps for which K says so (from number i on) laid over them -/
def land (K : Nat → Bool) : Nat → List ByteArray → List (Int × ByteArray) → List ByteArray
  | _, cs, [] => cs
  | i, cs, p :: ps => land K (i + 1) (if K i then cs.set p.1.toNat p.2 else cs) ps
theorem land_len (K : Nat → Bool) (ps : List (Int × ByteArray)) : ∀ i cs, (land K i cs ps).length = cs.length := by
  induction ps with
  | nil => intro i cs; rfl
  | cons p ps ih => intro i cs; simp only [land]; rw [ih]; split <;> simp
theorem land_take (K : Nat → Bool) {ps : List (Int × ByteArray)} {k : Nat} {p : Int × ByteArray} (hp : ps[k]? = some p) : ∀ i cs, land K i cs (ps.take (k + 1)) = if K (i + k) then (land K i cs (ps.take k)).set p.1.toNat p.2 else land K i cs (ps.take k) := by
  induction ps generalizing k with
  | nil => simp at hp
  | cons q ps ih =>
    intro i cs
    cases k with
    | zero =>
      simp at hp
      subst hp
      simp [land]
    | succ k =>
      simp only [List.take_succ_cons, land]
      rw [ih (by simpa using hp), show i + 1 + k = i + (k + 1) from by omega]
theorem land_all (K : Nat → Bool) {ps : List (Int × ByteArray)} {k : Nat} (hk : ps.length ≤ k) (i : Nat) (cs : List ByteArray) : land K i cs (ps.take k) = land K i cs ps := by rw [List.take_of_length_le hk]

theorem now_cons {cs : List ByteArray} {ps : List (Int × ByteArray)} {p : Int × ByteArray} {k : Nat} (h0 : 0 ≤ p.1) (h1 : p.1 < cs.length) : nowD cs (p :: ps) k = nowD (cs.set p.1.toNat p.2) ps k := by
  obtain ⟨i, hi⟩ : ∃ i : Nat, p.1 = (i : Int) := ⟨p.1.toNat, by omega⟩
  obtain ⟨a, t⟩ := p
  simp only at hi h0 h1
  subst hi
  unfold nowD
  simp only [List.reverse_cons, List.find?_append, Int.toNat_natCast]
  cases ps.reverse.find? (fun p => p.1 == (k : Int)) with
  | some q => simp
  | none =>
    simp only [Option.none_or]
    by_cases e : i = k
    · subst e
      have : i < cs.length := by omega
      simp [List.find?, this]
    · have e2 : ((i : Int) == (k : Int)) = false := by simp; omega
      simp [List.find?, e2, e]
theorem now_land {ps : List (Int × ByteArray)} {k : Nat} : ∀ (i : Nat) (cs : List ByteArray), (∀ p ∈ ps, 0 ≤ p.1 ∧ p.1 < cs.length) → nowD (land (fun _ => true) i cs ps) [] k = nowD cs ps k := by
  induction ps with
  | nil => intro i cs _; rfl
  | cons p ps ih =>
    intro i cs h
    have hp := h p List.mem_cons_self
    rw [now_cons hp.1 hp.2]
    simp only [land, if_true]
    exact ih (i + 1) _ fun q hq => by rw [List.length_set]; exact h q (List.mem_cons_of_mem _ hq)
theorem now_put {cs : List ByteArray} {ps : List (Int × ByteArray)} {a b : Int} {t : ByteArray} : nowD cs (ps ++ [(a, t)]) b = if a = b then t else nowD cs ps b := by
  unfold nowD
  simp only [List.reverse_append, List.reverse_cons, List.reverse_nil, List.nil_append, List.cons_append, List.find?_cons]
  by_cases e : a = b
  · simp [e]
  · have e2 : (a == b) = false := by simp [e]
    simp [e, e2]
end Go.Proofs.Ytcbpeampjhegcaa.disk
/-
  use: what is alive is not touched by a write to a cell in which nothing is alive (no program).
-/
namespace Go.Proofs.Ytcbpeampjhegcaa.lawUseOther
open Go.RowKit kit sl Go.Proofs.Ytcbpeampjhegcaa.disk Go.Proofs.Ytcbpeampjhegcaa.blob Go.Proofs.Ytcbpeampjhegcaa.inode Go.Proofs.Ytcbpeampjhegcaa.imap Go.Proofs.Ytcbpeampjhegcaa.use
set_option linter.unusedVariables false
section
variable {cs : use.Cells} {ps : Waits} {a : Int} {t : ByteArray}
theorem log_put {k : Nat} (h : (k : Int) ≠ a) : logF cs (ps ++ [(a, t)]) k = logF cs ps k := by
  have e : nowL cs (ps ++ [(a, t)]) k = nowL cs ps k := by
    unfold nowL
    rw [now_put, if_neg fun e => h e.symm]
  unfold logF
  rw [e]
theorem blob_put {p : Int × Int} (h : p.1 ≠ a) : blobF cs (ps ++ [(a, t)]) p = blobF cs ps p := by
  unfold blobF
  by_cases h1 : p.1 < 2 ∨ (cs.length : Int) ≤ p.1 ∨ p.2 < 0
  · rw [if_pos h1, if_pos h1]
  · rw [if_neg h1, if_neg h1, log_put (by omega)]
theorem part_put {n k : Int} {p : Int × Int} (h : p.1 ≠ a) : partF cs (ps ++ [(a, t)]) n k p = partF cs ps n k p := by
  unfold partF
  rw [blob_put h]
theorem ino_put {g n : Int} {p : Int × Int} (h : p.1 ≠ a) : inoF cs (ps ++ [(a, t)]) p g n = inoF cs ps p g n := by
  unfold inoF
  rw [blob_put h]
theorem partIts_put {n : Int} : ∀ (l : List (Int × Int)) (k : Nat) (L : List use.Item), partIts cs ps n l k = some L → (∀ x ∈ L, x.1 ≠ a) → partIts cs (ps ++ [(a, t)]) n l k = some L := by
  intro l
  induction l with
  | nil => intro k L h _; exact h
  | cons p l ih =>
    intro k L h hx
    rw [partIts] at h ⊢
    by_cases h0 : p.1 = 0
    · rw [if_pos h0] at h ⊢
      exact ih _ L h hx
    · rw [if_neg h0] at h ⊢
      by_cases h1 : (partF cs ps n (k : Int) p).2 = 0
      · rw [if_pos h1] at h
        obtain ⟨L2, e1, e2⟩ := Option.map_eq_some_iff.1 h
        subst e2
        have hp : p.1 ≠ a := hx _ List.mem_cons_self
        rw [part_put hp, if_pos h1, ih _ L2 e1 fun x hm => hx x (List.mem_cons_of_mem _ hm)]
        rfl
      · rw [if_neg h1] at h
        cases h
theorem itsOf_put {p : Int × Int} {g : Int} {n : Nat} {L : List use.Item} (h : itsOf cs ps p g n = some L) (hx : ∀ x ∈ L, x.1 ≠ a) : itsOf cs (ps ++ [(a, t)]) p g n = some L := by
  unfold itsOf at h ⊢
  by_cases h0 : p.1 = 0
  · rw [if_pos h0] at h ⊢
    exact h
  · rw [if_neg h0] at h ⊢
    cases hi : inoF cs ps p g (n : Int) with
    | none => rw [hi] at h; cases h
    | some l =>
      rw [hi] at h
      dsimp only at h
      obtain ⟨L2, e1, e2⟩ := Option.map_eq_some_iff.1 h
      subst e2
      have hp : p.1 ≠ a := hx _ List.mem_cons_self
      rw [ino_put hp, hi]
      dsimp only
      rw [partIts_put _ _ L2 e1 fun x hm => hx x (List.mem_cons_of_mem _ hm)]
      rfl
theorem its_put : ∀ (at' : List (Int × Int)) (gens : List Int) (n : Nat) (L : List use.Item), its cs ps at' gens n = some L → (∀ x ∈ L, x.1 ≠ a) → its cs (ps ++ [(a, t)]) at' gens n = some L := by
  intro at'
  induction at' with
  | nil => intro gens n L h _; rw [its_nil] at h ⊢; exact h
  | cons p at' ih =>
    intro gens n L h hx
    cases gens with
    | nil => rw [its_nil2] at h ⊢; exact h
    | cons g gens =>
      rw [its] at h ⊢
      cases h1 : itsOf cs ps p g n with
      | none => rw [h1] at h; cases h
      | some b =>
        rw [h1] at h
        dsimp only at h
        obtain ⟨L2, e1, e2⟩ := Option.map_eq_some_iff.1 h
        subst e2
        rw [itsOf_put h1 fun x hm => hx x (List.mem_append_left _ hm)]
        dsimp only
        rw [ih _ _ L2 e1 fun x hm => hx x (List.mem_append_right _ hm)]
        rfl
theorem good_put (hg : disk.Good cs ps) (h1 : 0 ≤ a ∧ a < (cs.length : Int)) (h2 : t.size ≤ 1024) (h3 : ps.length ≠ 400) : disk.Good cs (ps ++ [(a, t)]) := by
  have hw := hg.wait
  refine ⟨hg.n0, hg.n1, hg.cells, fun p hp => ?_, by rw [List.length_append, List.length_singleton]; omega⟩
  rcases List.mem_append.1 hp with hp | hp
  · exact hg.puts p hp
  · rw [List.mem_singleton.1 hp]
    exact put_zero.2 ⟨h1.1, h1.2, h2⟩
theorem cnt_put {at' : List (Int × Int)} {gens : List Int} {L : List use.Item} (h : CntOk cs ps at' gens L) (h1 : 0 ≤ a ∧ a < (cs.length : Int)) (h2 : t.size ≤ 1024) (h3 : ps.length ≠ 400) (hx : ∀ x ∈ L, x.1 ≠ a) : CntOk cs (ps ++ [(a, t)]) at' gens L :=
  ⟨good_put h.1 h1 h2 h3, h.2.1, its_put _ _ _ L h.2.2 hx⟩
theorem write_zero (hg : disk.Good cs ps) (h1 : 0 ≤ a ∧ a < (cs.length : Int)) (h2 : t.size ≤ 1024) (h3 : ps.length ≠ 400) : disk.writeE cs ps a t = 0 := by
  unfold disk.writeE
  rw [if_neg (by rw [of_good hg]; decide), if_neg (by rw [put_zero.2 ⟨h1.1, h1.2, h2⟩]; decide), if_neg h3]
end
theorem addAll_out : ∀ (L : List use.Item) (F : Nat → Nat) (j : Nat), (∀ x ∈ L, x.1.toNat ≠ j) → addAll F L j = F j := by
  intro L
  induction L with
  | nil => intro F j _; rfl
  | cons x L ih =>
    intro F j h
    rw [addAll, ih _ j fun y hy => h y (List.mem_cons_of_mem _ hy)]
    unfold upd1
    rw [if_neg fun e => h x List.mem_cons_self e.symm]
theorem any_none {k : Int} {out : List (Int × Int)} {L : List use.Item} (h : anyAt k out = false) (he : fsts out = fstI L) : ∀ x ∈ L, x.1 ≠ k := by
  intro x hx e
  have h1 : x.1 ∈ fstI L := List.mem_map_of_mem hx
  rw [← he] at h1
  obtain ⟨p, hp, hp2⟩ := List.mem_map.1 h1
  unfold anyAt at h
  have := List.any_eq_false.1 h p hp
  exact this (by rw [hp2, e]; simp)
end Go.Proofs.Ytcbpeampjhegcaa.lawUseOther
/-
  UseOther: the walk.
-/
namespace Go.Proofs.Ytcbpeampjhegcaa.lawUseOther
open Go.RowKit kit sl Go.Proofs.Ytcbpeampjhegcaa.disk Go.Proofs.Ytcbpeampjhegcaa.blob Go.Proofs.Ytcbpeampjhegcaa.inode Go.Proofs.Ytcbpeampjhegcaa.imap Go.Proofs.Ytcbpeampjhegcaa.use Go.Proofs.Ytcbpeampjhegcaa.within
set_option linter.unusedVariables false
theorem within_ct (k n : Int) (h1 : 1 ≤ n) (h2 : n ≤ 9223372036854775807) : Ct Try.prog 5 [.int .i64 k, .int .i64 n] [] fun v H' => v = .int .i64 (withinF k n) ∧ H' = [] :=
  ct_of_calls fun W _ => (within_any k n h1 h2 W).mono fun e w' ⟨h1, h2⟩ => ⟨h1, by rw [h2]; exact Below.refl _ _⟩
theorem cnt_some {a w qa qg : Option Addr} {ca cw ca2 cg : Nat} {cs : use.Cells} {ps : Waits} {at' : List (Int × Int)} {gens : List Int} (hc : cs.length ≤ maxLen) (hp : ps.length ≤ maxLen) (hw : WfM at' gens) {L : List use.Item} (h : CntOk cs ps at' gens L) :
    Ct Try.prog 4 [.agg #[.slice a cs.length ca, .slice w ps.length cw], .agg #[.slice qa at'.length ca2, .slice qg gens.length cg]] [sl 1 (.slice a cs.length ca) (cs.map fS), sl 2 (.slice w ps.length cw) (ps.map fP), sl 2 (.slice qa at'.length ca2) (at'.map fII), sl 1 (.slice qg gens.length cg) (gens.map fI)]
      fun v H' => ∃ q, v = .tuple #[.slice q cs.length cs.length, .int .i64 0] ∧ H' = [own (.slice q cs.length cs.length) 3 1 cs.length (flat fI (rowN cs.length (addAll (fun _ => 0) L)))] :=
  ct_mono (count_any a w qa qg ca cw ca2 cg cs ps at' gens hc hp hw) fun v H' h2 => by
    rcases h2 with ⟨L', q, e, h3, h4⟩ | ⟨e, _⟩
    · have : L' = L := by have h8 := e.2.2; rw [h.2.2] at h8; exact (Option.some.inj h8).symm
      subst this
      exact ⟨q, h3, h4⟩
    · exact absurd ⟨L, h⟩ e
theorem cnt_none {a w qa qg : Option Addr} {ca cw ca2 cg : Nat} {cs : use.Cells} {ps : Waits} {at' : List (Int × Int)} {gens : List Int} (hc : cs.length ≤ maxLen) (hp : ps.length ≤ maxLen) (hw : WfM at' gens) (h : ¬ ∃ L, CntOk cs ps at' gens L) :
    Ct Try.prog 4 [.agg #[.slice a cs.length ca, .slice w ps.length cw], .agg #[.slice qa at'.length ca2, .slice qg gens.length cg]] [sl 1 (.slice a cs.length ca) (cs.map fS), sl 2 (.slice w ps.length cw) (ps.map fP), sl 2 (.slice qa at'.length ca2) (at'.map fII), sl 1 (.slice qg gens.length cg) (gens.map fI)]
      fun v H' => ∃ e : Int, e ≠ 0 ∧ v = .tuple #[.slice none 0 0, .int .i64 e] ∧ H' = [] :=
  ct_mono (count_any a w qa qg ca cw ca2 cg cs ps at' gens hc hp hw) fun v H' h2 => by
    rcases h2 with ⟨L', q, e, _⟩ | ⟨_, h3⟩
    · exact absurd ⟨L', e⟩ h
    · exact h3
theorem wr_new {a w : Option Addr} {ca cw : Nat} {cs : List ByteArray} {ps : List (Int × ByteArray)} {at' : Int} {text : ByteArray} (hc : cs.length ≤ maxLen) (hp : ps.length ≤ maxLen) (h : disk.writeE cs ps at' text = 0) :
    Ct Try.prog 9 [.agg #[.slice a cs.length ca, .slice w ps.length cw], .int .i64 at', .string text] [sl 1 (.slice a cs.length ca) (cs.map fS), sl 2 (.slice w ps.length cw) (ps.map fP)] fun v H' => ∃ qa ca qw cw, v = .tuple #[.agg #[.slice qa cs.length ca, .slice qw (ps.length + 1) cw], .int .i64 0] ∧ H' = [own (.slice qa cs.length ca) 9 1 cs.length (flat fS cs), own (.slice qw (ps.length + 1) cw) 63 2 (ps.length + 1) (flat fP (ps ++ [(at', text)]))] :=
  ct_mono (disk.write_any a w ca cw cs ps at' text hc hp) fun v H' h2 => by
    rcases h2 with ⟨h3, _⟩ | ⟨_, qa, ca, qw, cw, h3, h4⟩
    · exact absurd h h3
    · rw [List.length_append, List.length_singleton] at h3 h4
      exact ⟨qa, ca, qw, cw, h3, h4⟩
attribute [local irreducible] box own sl old bptr eptr Qt Opr Run Cod Pst Drn
set_option maxRecDepth 100000 in
set_option maxHeartbeats 8000000 in
theorem equal_I (qa qb : Option Addr) (ca cb : Nat) (xs ys : List (Int)) (hn : xs.length ≤ maxLen) (hm : ys.length ≤ maxLen) :
    Ct Try.prog 10 [.slice qa xs.length ca, .slice qb ys.length cb] [sl 1 (.slice qa xs.length ca) (xs.map fI), sl 1 (.slice qb ys.length cb) (ys.map fI)] fun v H' => v = .bool (decide (xs = ys)) ∧ H' = [] := by
  unfold maxLen at hn hm
  by_cases hl : xs.length = ys.length
  · (refine spec_enter Try.func10 Try.ntmps10 rfl rfl fun Fr => ?_; dsimp only [List.cons_append, List.nil_append, ini, Nat.reduceAdd])
    (repeat' (first | (apply run_qg 1; (focus rfl); (focus exact wt); (focus rfl); (focus (exact qg1))) | (apply run_qg 4; (focus rfl); (focus exact wt); (focus rfl); (focus (first | exact qg4 | exact qs4))) | (apply run_qg 6; (focus rfl); (focus exact wt); (focus rfl); (focus (first | exact qs6 | exact qg6 | exact q_max rfl rfl rfl | exact q_sliceData rfl rfl (by omega) | exact q_sliceDataN rfl rfl | exact q_unsafeStringN rfl rfl rfl | exact q_cap_slice rfl rfl))) | refine cod_seq ?_ | refine cod_region ?_ | refine run_nil ?_ | refine pst_then ?_ | (apply cod_cond_f; (focus rfl)) | refine cod_block ?_ | refine cod_skip ?_))
    (refine cod_loop_ro (σ := Nat) (fun k => k ≤ xs.length ∧ xs.take k = ys.take k) (fun k => [(13, .int .i64 (k : Int))]) (fun k => xs.length - k) (0) (by simp) (by exact fsa) (fun k ⟨hk, ht⟩ => ?_); dsimp only [List.cons_append, List.nil_append])
    rcases get_or xs k with ⟨x, hx, hlt⟩ | hge
    · obtain ⟨y, hy⟩ : ∃ y, ys[k]? = some y := ⟨_, List.getElem?_eq_getElem (by omega)⟩
      by_cases hxy : x = y
      · (repeat' (first | (apply run_qg 1; (focus rfl); (focus exact wt); (focus rfl); (focus (exact qg1))) | (apply run_qg 4; (focus rfl); (focus exact wt); (focus rfl); (focus (first | exact qg4 | exact qs4))) | refine cod_seq ?_ | refine cod_region ?_ | refine run_nil ?_ | refine pst_then ?_ | (apply cod_cond_t; (focus rfl)) | (apply cod_cond_f; (focus rfl)) | refine cod_block ?_ | refine cod_skip ?_ | refine pst_block ?_ | (apply cod_drawn_k; (focus kernel_rfl); (focus (simp only [List.length_cons, List.length_nil, Nat.reduceAdd]; rfl))) | (apply drnK_take 1; (focus rfl); (focus rfl); (focus exact wt); (focus (decide +kernel)); (focus exact hsq); (focus rfl); (focus (exact qg1))) | (apply drnK_take 2; (focus rfl); (focus rfl); (focus exact wt); (focus (decide +kernel)); (focus exact hsq); (focus rfl); (focus (first | exact qg2 | exact qs2))) | (apply drnK_take 3; (focus rfl); (focus rfl); (focus exact wt); (focus (decide +kernel)); (focus exact hsq); (focus rfl); (focus (first | exact qg3 | exact qs3))) | (apply drnK_take 4; (focus rfl); (focus rfl); (focus exact wt); (focus (decide +kernel)); (focus exact hsq); (focus rfl); (focus (first | exact qg4 | exact qs4))) | (apply drnK_end; (focus (decide +kernel)))))
        refine pst_again (k + 1) ?_ (FSub.of (by (try dsimp only); exact fsa)) (by (try dsimp only); exact hsa) ?_
        · exact ⟨by omega, by rw [take_one hx, take_one hy, ht, hxy]⟩
        · show xs.length - (k + 1) < xs.length - k
          omega
      · (repeat' (first | (apply run_qg 1; (focus rfl); (focus exact wt); (focus rfl); (focus (exact qg1))) | (apply run_qg 4; (focus rfl); (focus exact wt); (focus rfl); (focus (first | exact qg4 | exact qs4))) | refine cod_seq ?_ | refine cod_region ?_ | refine run_nil ?_ | refine pst_then ?_ | (apply cod_cond_t; (focus rfl)) | refine cod_block ?_ | refine cod_ret ?_ | refine cod_skip ?_ | refine pst_block_ret ?_ | refine pst_then_ret ?_ | (apply cod_drawn_k; (focus kernel_rfl); (focus (simp only [List.length_cons, List.length_nil, Nat.reduceAdd]; rfl))) | (apply drnK_take 1; (focus rfl); (focus rfl); (focus exact wt); (focus (decide +kernel)); (focus exact hsq); (focus rfl); (focus (exact qg1))) | (apply drnK_take 2; (focus rfl); (focus rfl); (focus exact wt); (focus (decide +kernel)); (focus exact hsq); (focus rfl); (focus (first | exact qg2 | exact qs2))) | (apply drnK_take 3; (focus rfl); (focus rfl); (focus exact wt); (focus (decide +kernel)); (focus exact hsq); (focus rfl); (focus (first | exact qg3 | exact qs3))) | (apply drnK_take 4; (focus rfl); (focus rfl); (focus exact wt); (focus (decide +kernel)); (focus exact hsq); (focus rfl); (focus (first | exact qg4 | exact qs4))) | (apply drnK_end; (focus (decide +kernel)))))
        have hd : decide (xs = ys) = false := by
          rw [decide_eq_false_iff_not]
          intro e
          rw [e, hy] at hx
          exact hxy (Option.some.inj hx).symm
        exact pst_fin rfl (by exact resa) _ (⟨by rw [hd], rfl⟩) (by exact hsa)
    · (repeat' (first | (apply run_qg 1; (focus rfl); (focus exact wt); (focus rfl); (focus (exact qg1))) | (apply run_qg 4; (focus rfl); (focus exact wt); (focus rfl); (focus (first | exact qg4 | exact qs4))) | refine cod_seq ?_ | refine cod_region ?_ | refine run_nil ?_ | refine pst_then ?_ | (apply cod_cond_f; (focus rfl)) | refine cod_exit ?_ | refine cod_ret ?_ | refine pst_block_here ?_ | refine pst_then_exit ?_))
      have hd : decide (xs = ys) = true := by
        rw [decide_eq_true_iff]
        rwa [List.take_of_length_le hge, List.take_of_length_le (by omega)] at ht
      exact pst_fin rfl (by exact resa) _ (⟨by rw [hd], rfl⟩) (by exact hsa)
  · have hd : decide (xs = ys) = false := by
      rw [decide_eq_false_iff_not]
      intro e
      rw [e] at hl
      exact hl rfl
    (refine spec_enter Try.func10 Try.ntmps10 rfl rfl fun Fr => ?_; dsimp only [List.cons_append, List.nil_append, ini, Nat.reduceAdd])
    (repeat' (first | (apply run_qg 1; (focus rfl); (focus exact wt); (focus rfl); (focus (exact qg1))) | (apply run_qg 4; (focus rfl); (focus exact wt); (focus rfl); (focus (first | exact qg4 | exact qs4))) | (apply run_qg 6; (focus rfl); (focus exact wt); (focus rfl); (focus (first | exact qs6 | exact qg6 | exact q_max rfl rfl rfl | exact q_sliceData rfl rfl (by omega) | exact q_sliceDataN rfl rfl | exact q_unsafeStringN rfl rfl rfl | exact q_cap_slice rfl rfl))) | refine cod_seq ?_ | refine cod_region ?_ | refine run_nil ?_ | refine pst_then ?_ | (apply cod_cond_t; (focus rfl)) | refine cod_ret ?_ | refine pst_then_ret ?_))
    exact pst_fin rfl (by exact resa) _ (⟨by rw [hd], rfl⟩) (by exact hsa)

attribute [local irreducible] anyAt fsts fstI withinF
set_option maxRecDepth 100000 in
set_option maxHeartbeats 8000000 in
theorem law_any (a w qa qg : Option Addr) (ca cw ca2 cg : Nat) (cs : use.Cells) (ps : Waits) (at' : List (Int × Int)) (gens : List Int) (hc : cs.length ≤ maxLen) (hp : ps.length ≤ maxLen) (hw : WfM at' gens) (k : Int) (hk : (Lit.int .i64 k).wf = true) (s : List UInt8) (hs : s.length ≤ 140737488351232) :
    Ct Try.prog 3 [.agg #[.slice a cs.length ca, .slice w ps.length cw], .agg #[.slice qa at'.length ca2, .slice qg gens.length cg], .int .i64 k, .string (str s)] [sl 1 (.slice a cs.length ca) (cs.map fS), sl 2 (.slice w ps.length cw) (ps.map fP), sl 2 (.slice qa at'.length ca2) (at'.map fII), sl 1 (.slice qg gens.length cg) (gens.map fI)] fun v H' => v = .bool true ∧ H' = [] := by
  by_cases hcnt : ∃ L, CntOk cs ps at' gens L
  · obtain ⟨L, hL⟩ := hcnt
    have K0 := cnt_some (a := a) (w := w) (qa := qa) (qg := qg) (ca := ca) (cw := cw) (ca2 := ca2) (cg := cg) hc hp hw hL
    have A0 := alive_any a w qa qg ca cw ca2 cg cs ps at' gens hL
    unfold AliveR at A0
    have hgd := hL.1
    have hn1 := hgd.n1
    have hwt := hgd.wait
    by_cases h3 : cs.length < 3
    · generalize rowN cs.length (addAll (fun _ => 0) L) = row at *
      (refine spec_enter Try.func3 Try.ntmps3 rfl rfl fun Fr => ?_; dsimp only [List.cons_append, List.nil_append, ini, Nat.reduceAdd])
      (repeat' (first | (apply run_qg 1; (focus rfl); (focus exact wt); (focus rfl); (focus (exact qg1))) | (apply run_qg 2; (focus rfl); (focus exact wt); (focus rfl); (focus (first | exact qg2 | exact qs2))) | refine cod_seq ?_ | refine cod_region ?_ | refine run_nil ?_ | refine pst_then ?_ | (apply run_osg 8; (focus rfl); (focus exact wt); (focus rfl); (focus (exact opr_box_agg rfl rfl)); (rintro _ _ ⟨b, rfl, rfl⟩)) | (apply run_osg 8; (focus rfl); (focus exact wt); (focus rfl); (focus (exact opr_box_one rfl rfl rfl)); (rintro _ _ ⟨b, rfl, rfl⟩))))
      (refine run_os wt rfl (opr_call_l rfl (K0) rfl (by exact lpa)) ?_; rintro _ _ ⟨_, ⟨q1, rfl, rfl⟩, rfl⟩; dsimp only [List.cons_append, List.nil_append])
      (repeat' (first | (apply run_qg 1; (focus rfl); (focus exact wt); (focus rfl); (focus (exact qg1))) | (apply run_qg 2; (focus rfl); (focus exact wt); (focus rfl); (focus (first | exact qg2 | exact qs2))) | (apply run_qg 3; (focus rfl); (focus exact wt); (focus rfl); (focus (first | exact qg3 | exact qs3))) | (apply run_qg 4; (focus rfl); (focus exact wt); (focus rfl); (focus (first | exact qg4 | exact qs4))) | (apply run_qg 6; (focus rfl); (focus exact wt); (focus rfl); (focus (first | exact qs6 | exact qg6 | exact q_max rfl rfl rfl | exact q_sliceData rfl rfl (by omega) | exact q_sliceDataN rfl rfl | exact q_unsafeStringN rfl rfl rfl | exact q_cap_slice rfl rfl))) | refine cod_seq ?_ | refine cod_region ?_ | refine run_nil ?_ | refine pst_then ?_ | (apply cod_cond_t; (focus rfl)) | (apply cod_cond_f; (focus rfl)) | refine cod_ret ?_ | refine cod_skip ?_ | refine pst_then_ret ?_ | (apply run_offs; (focus rfl); (focus rfl); (focus rfl))))
      exact pst_fin rfl (by exact resa) _ (⟨rfl, rfl⟩) (by exact hsa)
    · by_cases h4 : 1024 < s.length
      · generalize rowN cs.length (addAll (fun _ => 0) L) = row at *
        (refine spec_enter Try.func3 Try.ntmps3 rfl rfl fun Fr => ?_; dsimp only [List.cons_append, List.nil_append, ini, Nat.reduceAdd])
        (repeat' (first | (apply run_qg 1; (focus rfl); (focus exact wt); (focus rfl); (focus (exact qg1))) | (apply run_qg 2; (focus rfl); (focus exact wt); (focus rfl); (focus (first | exact qg2 | exact qs2))) | refine cod_seq ?_ | refine cod_region ?_ | refine run_nil ?_ | refine pst_then ?_ | (apply run_osg 8; (focus rfl); (focus exact wt); (focus rfl); (focus (exact opr_box_agg rfl rfl)); (rintro _ _ ⟨b, rfl, rfl⟩)) | (apply run_osg 8; (focus rfl); (focus exact wt); (focus rfl); (focus (exact opr_box_one rfl rfl rfl)); (rintro _ _ ⟨b, rfl, rfl⟩))))
        (refine run_os wt rfl (opr_call_l rfl (K0) rfl (by exact lpa)) ?_; rintro _ _ ⟨_, ⟨q1, rfl, rfl⟩, rfl⟩; dsimp only [List.cons_append, List.nil_append])
        (repeat' (first | (apply run_qg 1; (focus rfl); (focus exact wt); (focus rfl); (focus (exact qg1))) | (apply run_qg 2; (focus rfl); (focus exact wt); (focus rfl); (focus (first | exact qg2 | exact qs2))) | (apply run_qg 3; (focus rfl); (focus exact wt); (focus rfl); (focus (first | exact qg3 | exact qs3))) | (apply run_qg 4; (focus rfl); (focus exact wt); (focus rfl); (focus (first | exact qg4 | exact qs4))) | (apply run_qg 6; (focus rfl); (focus exact wt); (focus rfl); (focus (first | exact qs6 | exact qg6 | exact q_max rfl rfl rfl | exact q_sliceData rfl rfl (by omega) | exact q_sliceDataN rfl rfl | exact q_unsafeStringN rfl rfl rfl | exact q_cap_slice rfl rfl))) | refine cod_seq ?_ | refine cod_region ?_ | refine run_nil ?_ | refine pst_then ?_ | (apply cod_cond_t; (focus rfl)) | (apply cod_cond_f; (focus rfl)) | refine cod_ret ?_ | refine cod_skip ?_ | refine pst_then_ret ?_ | (apply run_offs; (focus rfl); (focus rfl); (focus rfl))))
        exact pst_fin rfl (by exact resa) _ (⟨rfl, rfl⟩) (by exact hsa)
      · by_cases h5 : ps.length = 400
        · generalize rowN cs.length (addAll (fun _ => 0) L) = row at *
          (refine spec_enter Try.func3 Try.ntmps3 rfl rfl fun Fr => ?_; dsimp only [List.cons_append, List.nil_append, ini, Nat.reduceAdd])
          (repeat' (first | (apply run_qg 1; (focus rfl); (focus exact wt); (focus rfl); (focus (exact qg1))) | (apply run_qg 2; (focus rfl); (focus exact wt); (focus rfl); (focus (first | exact qg2 | exact qs2))) | refine cod_seq ?_ | refine cod_region ?_ | refine run_nil ?_ | refine pst_then ?_ | (apply run_osg 8; (focus rfl); (focus exact wt); (focus rfl); (focus (exact opr_box_agg rfl rfl)); (rintro _ _ ⟨b, rfl, rfl⟩)) | (apply run_osg 8; (focus rfl); (focus exact wt); (focus rfl); (focus (exact opr_box_one rfl rfl rfl)); (rintro _ _ ⟨b, rfl, rfl⟩))))
          (refine run_os wt rfl (opr_call_l rfl (K0) rfl (by exact lpa)) ?_; rintro _ _ ⟨_, ⟨q1, rfl, rfl⟩, rfl⟩; dsimp only [List.cons_append, List.nil_append])
          (repeat' (first | (apply run_qg 1; (focus rfl); (focus exact wt); (focus rfl); (focus (exact qg1))) | (apply run_qg 2; (focus rfl); (focus exact wt); (focus rfl); (focus (first | exact qg2 | exact qs2))) | (apply run_qg 3; (focus rfl); (focus exact wt); (focus rfl); (focus (first | exact qg3 | exact qs3))) | (apply run_qg 4; (focus rfl); (focus exact wt); (focus rfl); (focus (first | exact qg4 | exact qs4))) | (apply run_qg 6; (focus rfl); (focus exact wt); (focus rfl); (focus (first | exact qs6 | exact qg6 | exact q_max rfl rfl rfl | exact q_sliceData rfl rfl (by omega) | exact q_sliceDataN rfl rfl | exact q_unsafeStringN rfl rfl rfl | exact q_cap_slice rfl rfl))) | refine cod_seq ?_ | refine cod_region ?_ | refine run_nil ?_ | refine pst_then ?_ | (apply cod_cond_t; (focus rfl)) | (apply cod_cond_f; (focus rfl)) | refine cod_ret ?_ | refine cod_skip ?_ | refine pst_then_ret ?_))
          exact pst_fin rfl (by exact resa) _ (⟨rfl, rfl⟩) (by exact hsa)
        · have W0 := within_ct k ((cs.length : Int) - 2) (by omega) (by omega)
          have hwb := withinF_bd k ((cs.length : Int) - 2) (by omega)
          generalize withinF k ((cs.length : Int) - 2) = r at *
          obtain ⟨j, hj⟩ : ∃ j : Nat, 2 + r = (j : Int) := ⟨(2 + r).toNat, by omega⟩
          have hjl : j < cs.length := by omega
          have CN := fun q c b out (ho : List.length out ≤ 1000) => contains_any q c b (j : Int) out (by omega)
          have hwz := fun (h : ∀ x ∈ L, x.1 ≠ (j : Int)) => write_zero (a := (j : Int)) (t := str s) hgd (by omega) (by rw [str_size]; omega) h5
          have hcp := fun (h : ∀ x ∈ L, x.1 ≠ (j : Int)) => cnt_put (a := (j : Int)) (t := str s) hL (by omega) (by rw [str_size]; omega) h5 h
          have haz : (∀ x ∈ L, x.1 ≠ (j : Int)) → (rowN cs.length (addAll (fun _ => 0) L))[j]? = some 0 := fun h => by
            rw [rowN_at _ hjl, addAll_out _ _ _ fun x hx e => h x hx (by
              have := (its_in _ _ _ L hL.2.2 x hx).1
              omega)]
            rfl
          have hrl : (rowN cs.length (addAll (fun _ => 0) L)).length = cs.length := rowN_len _ _
          (refine spec_enter Try.func3 Try.ntmps3 rfl rfl fun Fr => ?_; dsimp only [List.cons_append, List.nil_append, ini, Nat.reduceAdd])
          (repeat' (first | (apply run_qg 1; (focus rfl); (focus exact wt); (focus rfl); (focus (exact qg1))) | (apply run_qg 2; (focus rfl); (focus exact wt); (focus rfl); (focus (first | exact qg2 | exact qs2))) | refine cod_seq ?_ | refine cod_region ?_ | refine run_nil ?_ | refine pst_then ?_ | (apply run_osg 8; (focus rfl); (focus exact wt); (focus rfl); (focus (exact opr_box_agg rfl rfl)); (rintro _ _ ⟨b, rfl, rfl⟩)) | (apply run_osg 8; (focus rfl); (focus exact wt); (focus rfl); (focus (exact opr_box_one rfl rfl rfl)); (rintro _ _ ⟨b, rfl, rfl⟩))))
          (refine run_os wt rfl (opr_call_l rfl (K0) rfl (by exact lpa)) ?_; rintro _ _ ⟨_, ⟨q1, rfl, rfl⟩, rfl⟩; dsimp only [List.cons_append, List.nil_append])
          (repeat' (first | (apply run_qg 1; (focus rfl); (focus exact wt); (focus rfl); (focus (exact qg1))) | (apply run_qg 2; (focus rfl); (focus exact wt); (focus rfl); (focus (first | exact qg2 | exact qs2))) | (apply run_qg 3; (focus rfl); (focus exact wt); (focus rfl); (focus (first | exact qg3 | exact qs3))) | (apply run_qg 4; (focus rfl); (focus exact wt); (focus rfl); (focus (first | exact qg4 | exact qs4))) | (apply run_qg 6; (focus rfl); (focus exact wt); (focus rfl); (focus (first | exact qs6 | exact qg6 | exact q_max rfl rfl rfl | exact q_sliceData rfl rfl (by omega) | exact q_sliceDataN rfl rfl | exact q_unsafeStringN rfl rfl rfl | exact q_cap_slice rfl rfl))) | (apply cod_seq_nr 7; (focus rfl)) | refine cod_region ?_ | refine run_nil ?_ | refine pst_then ?_ | (apply cod_cond_f; (focus rfl)) | refine cod_skip ?_ | (apply run_ong 9; (focus rfl); (focus exact wt); (focus (exact opr_store_box_one rfl rfl rfl rfl (by exact pka) rfl (by exact seta))); (rintro _ _ ⟨rfl, rfl⟩)) | (apply run_osg 7; (focus rfl); (focus exact wt); (focus rfl); (focus (exact opr_call_ls (by rfl) (W0 ..) (by rfl) lpa)); (rintro _ _ ⟨rfl, rfl⟩))))
          rw [hj]
          clear W0 hwb hj
          (repeat' (first | (apply run_qg 2; (focus rfl); (focus exact wt); (focus rfl); (focus (first | exact qg2 | exact qs2))) | refine cod_seq ?_ | refine cod_region ?_))
          (refine run_os wt rfl (opr_call_l rfl (A0) rfl (by exact lpa)) ?_; rintro _ _ ⟨_, ⟨out, q2, c2, ⟨hf, hol⟩, rfl, rfl⟩, rfl⟩; dsimp only [List.cons_append, List.nil_append])
          have CN0 := fun q c b => CN q c b out hol
          cases han : anyAt (j : Int) out with
          | true =>
            rw [han] at CN0
            clear hwz hcp haz CN
            (repeat' (first | (apply run_qg 1; (focus rfl); (focus exact wt); (focus rfl); (focus (exact qg1))) | (apply run_qg 4; (focus rfl); (focus exact wt); (focus rfl); (focus (first | exact qg4 | exact qs4))) | (apply run_qg 5; (focus rfl); (focus exact wt); (focus rfl); (focus (exact qg5))) | refine cod_seq ?_ | refine cod_region ?_ | refine run_nil ?_ | refine pst_then ?_ | (apply cod_cond_f; (focus rfl)) | refine cod_skip ?_))
            (refine run_os wt rfl (opr_call_l rfl (CN0 _ _ _) rfl (by exact lpa)) ?_; rintro _ _ ⟨_, ⟨rfl, rfl⟩, rfl⟩; dsimp only [List.cons_append, List.nil_append])
            (repeat' (first | (apply run_qg 1; (focus rfl); (focus exact wt); (focus rfl); (focus (exact qg1))) | refine cod_seq ?_ | refine cod_region ?_ | refine run_nil ?_ | refine pst_then ?_ | (apply cod_cond_t; (focus rfl)) | refine cod_ret ?_ | refine pst_then_ret ?_))
            exact pst_fin rfl (by exact resa) _ (⟨rfl, rfl⟩) (by exact hsa)
          | false =>
            rw [han] at CN0
            have hno := any_none han hf
            have WR := wr_new (a := a) (w := w) (ca := ca) (cw := cw) hc hp (hwz hno)
            have hL2 := hcp hno
            have K1 := fun qa' ca' qw' cw' => cnt_some (a := qa') (w := qw') (qa := qa) (qg := qg) (ca := ca') (cw := cw') (ca2 := ca2) (cg := cg) hc (by rw [List.length_append, List.length_singleton]; unfold maxLen; omega) hw hL2
            rw [List.length_append, List.length_singleton] at K1
            have hz := haz hno
            have E0 := fun qa qb ca cb => ct_true (equal_I qa qb ca cb (rowN cs.length (addAll (fun _ => 0) L)) (rowN cs.length (addAll (fun _ => 0) L)) (by unfold maxLen; omega) (by unfold maxLen; omega)) rfl
            rw [hrl] at E0
            clear hwz hcp haz CN hno hL hL2 han
            generalize rowN cs.length (addAll (fun _ => 0) L) = row at *
            (repeat' (first | (apply run_qg 1; (focus rfl); (focus exact wt); (focus rfl); (focus (exact qg1))) | (apply run_qg 4; (focus rfl); (focus exact wt); (focus rfl); (focus (first | exact qg4 | exact qs4))) | (apply run_qg 5; (focus rfl); (focus exact wt); (focus rfl); (focus (exact qg5))) | refine cod_seq ?_ | refine cod_region ?_ | refine run_nil ?_ | refine pst_then ?_ | (apply cod_cond_f; (focus rfl)) | refine cod_skip ?_))
            (refine run_os wt rfl (opr_call_l rfl (CN0 _ _ _) rfl (by exact lpa)) ?_; rintro _ _ ⟨_, ⟨rfl, rfl⟩, rfl⟩; dsimp only [List.cons_append, List.nil_append])
            (repeat' (first | (apply run_qg 1; (focus rfl); (focus exact wt); (focus rfl); (focus (exact qg1))) | (apply run_qg 2; (focus rfl); (focus exact wt); (focus rfl); (focus (first | exact qg2 | exact qs2))) | refine cod_seq ?_ | refine cod_region ?_ | refine run_nil ?_ | refine pst_then ?_ | (apply cod_cond_f; (focus rfl)) | refine cod_skip ?_))
            (refine run_os wt rfl (opr_call_l rfl (WR) rfl (by exact lpa)) ?_; rintro _ _ ⟨_, ⟨q5, c5, q6, c6, rfl, rfl⟩, rfl⟩; dsimp only [List.cons_append, List.nil_append])
            (repeat' (first | (apply run_qg 1; (focus rfl); (focus exact wt); (focus rfl); (focus (exact qg1))) | (apply run_qg 2; (focus rfl); (focus exact wt); (focus rfl); (focus (first | exact qg2 | exact qs2))) | (apply run_qg 3; (focus rfl); (focus exact wt); (focus rfl); (focus (first | exact qg3 | exact qs3))) | (apply run_qg 4; (focus rfl); (focus exact wt); (focus rfl); (focus (first | exact qg4 | exact qs4))) | refine cod_seq ?_ | refine cod_region ?_ | refine run_nil ?_ | refine pst_then ?_ | (apply cod_cond_f; (focus rfl)) | refine cod_skip ?_ | (apply run_osg 8; (focus rfl); (focus exact wt); (focus rfl); (focus (exact opr_new rfl)); (rintro _ _ ⟨b, rfl, rfl⟩)) | (apply run_ong 9; (focus rfl); (focus exact wt); (focus (exact opr_store_box_agg rfl rfl rfl (by exact pka) rfl rfl rfl (by exact spla))); (rintro _ _ ⟨rfl, rfl⟩))))
            (refine run_os wt rfl (opr_call_l rfl (K1 _ _ _ _) rfl (by exact lpa)) ?_; rintro _ _ ⟨_, ⟨q7, rfl, rfl⟩, rfl⟩; dsimp only [List.cons_append, List.nil_append])
            (repeat' (first | (apply run_qg 1; (focus rfl); (focus exact wt); (focus rfl); (focus (exact qg1))) | (apply run_qg 4; (focus rfl); (focus exact wt); (focus rfl); (focus (first | exact qg4 | exact qs4))) | refine cod_seq ?_ | refine cod_region ?_ | refine run_nil ?_ | refine pst_then ?_ | refine cod_ret ?_ | (apply run_osg 7; (focus rfl); (focus exact wt); (focus rfl); (focus (exact opr_call_ls (by rfl) (E0 ..) (by rfl) lpa)); (rintro _ _ ⟨rfl, rfl⟩))))
            exact pst_fin rfl (by exact resa) _ (⟨rfl, rfl⟩) (by exact hsa)
  · have K0 := cnt_none (a := a) (w := w) (qa := qa) (qg := qg) (ca := ca) (cw := cw) (ca2 := ca2) (cg := cg) hc hp hw hcnt
    (refine spec_enter Try.func3 Try.ntmps3 rfl rfl fun Fr => ?_; dsimp only [List.cons_append, List.nil_append, ini, Nat.reduceAdd])
    (repeat' (first | (apply run_qg 1; (focus rfl); (focus exact wt); (focus rfl); (focus (exact qg1))) | (apply run_qg 2; (focus rfl); (focus exact wt); (focus rfl); (focus (first | exact qg2 | exact qs2))) | refine cod_seq ?_ | refine cod_region ?_ | refine run_nil ?_ | refine pst_then ?_ | (apply run_osg 8; (focus rfl); (focus exact wt); (focus rfl); (focus (exact opr_box_agg rfl rfl)); (rintro _ _ ⟨b, rfl, rfl⟩)) | (apply run_osg 8; (focus rfl); (focus exact wt); (focus rfl); (focus (exact opr_box_one rfl rfl rfl)); (rintro _ _ ⟨b, rfl, rfl⟩))))
    (refine run_os wt rfl (opr_call_l rfl (K0) rfl (by exact lpa)) ?_; rintro _ _ ⟨_, ⟨e, he, rfl, rfl⟩, rfl⟩; dsimp only [List.cons_append, List.nil_append])
    (repeat' (first | (apply run_qg 1; (focus rfl); (focus exact wt); (focus rfl); (focus (exact qg1))) | (apply run_qg 4; (focus rfl); (focus exact wt); (focus rfl); (focus (first | exact qg4 | exact qs4))) | (apply run_qg 6; (focus rfl); (focus exact wt); (focus rfl); (focus (first | exact qs6 | exact qg6 | exact q_max rfl rfl rfl | exact q_sliceData rfl rfl (by omega) | exact q_sliceDataN rfl rfl | exact q_unsafeStringN rfl rfl rfl | exact q_cap_slice rfl rfl))) | refine cod_seq ?_ | refine cod_region ?_ | refine run_nil ?_ | refine pst_then ?_ | (apply cod_cond_t; (focus rfl)) | refine cod_ret ?_ | refine pst_then_ret ?_))
    exact pst_fin rfl (by exact resa) _ (⟨rfl, rfl⟩) (by exact hsa)
theorem walk (W : World) (a : Value) (cs : List ByteArray) (ha : SliceAt W 1 a (cs.map fun s : ByteArray => [Value.string s])) (ga : ∀ s ∈ cs, s.size ≤ maxLen) (na : cs.length * Try.prog.bytesOf 9 ≤ reachBytes)
    (b : Value) (ps : List (Int × ByteArray)) (hb : SliceAt W 2 b (ps.map fun p : Int × ByteArray => [Value.int .i64 p.1, Value.string p.2])) (gb : ∀ p ∈ ps, (Lit.int .i64 p.1).wf = true ∧ p.2.size ≤ maxLen) (nb : ps.length * Try.prog.bytesOf 63 ≤ reachBytes)
    (c : Value) (at' : List (Int × Int)) (hc : SliceAt W 2 c (at'.map fun p : Int × Int => [Value.int .i64 p.1, Value.int .i64 p.2])) (gc : ∀ p ∈ at', (Lit.int .i64 p.1).wf = true ∧ (Lit.int .i64 p.2).wf = true) (nc : at'.length * Try.prog.bytesOf 38 ≤ reachBytes)
    (d : Value) (gs : List Int) (hd : SliceAt W 1 d (gs.map fun z : Int => [Value.int .i64 z])) (gd : ∀ z ∈ gs, (Lit.int .i64 z).wf = true) (nd : gs.length * Try.prog.bytesOf 3 ≤ reachBytes)
    (k : Int) (hk : (Lit.int .i64 k).wf = true) (s : ByteArray) (hs : s.size ≤ reachBytes) :
    Calls Try.prog 3 #[.agg #[a, b], .agg #[c, d], .int .i64 k, .string s] W fun e w' => e = .returned (.bool true) ∧ Below W.heap.size W w' := by
  have hr : reachBytes = 140737488351232 := rfl
  have h16 : Try.prog.bytesOf 38 = 16 := by kernel_rfl
  have h8 : Try.prog.bytesOf 3 = 8 := by kernel_rfl
  have hcl := len_bound (by kernel_rfl) na
  have hpl := len_bound (by kernel_rfl) nb
  rw [hr, h16] at nc
  rw [hr, h8] at nd
  obtain ⟨qa, ca, rfl⟩ := slice_shape ha
  obtain ⟨qb, cb, rfl⟩ := slice_shape hb
  obtain ⟨qc, cc, rfl⟩ := slice_shape hc
  obtain ⟨qd, cd, rfl⟩ := slice_shape hd
  obtain ⟨x, rfl, hx⟩ := str_of s
  simp only [List.length_map] at ha hb hc hd ⊢
  exact law_of_ct (sh_cons ha (sh_cons hb (sh_cons hc (sh_cons hd sh_nil)))) (law_any qa qb qc qd ca cb cc cd cs ps at' gs hcl hpl ⟨gc, gd, by omega, by omega⟩ k hk x (by omega))
end Go.Proofs.Ytcbpeampjhegcaa.lawUseOther
