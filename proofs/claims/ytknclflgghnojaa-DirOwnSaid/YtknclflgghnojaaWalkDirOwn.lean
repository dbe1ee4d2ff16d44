/-
  DirOwn: the walk.
-/
import Derived.Test.YtknclflgghnojaaDirLaw
import Derived.Test.YtknclflgghnojaaDirEq
import Derived.Test.YtknclflgghnojaaOpen2
namespace Go.Proofs.Ytknclflgghnojaa.lawDirOwn
open Go.RowKit kit sl Go.Proofs.Ytknclflgghnojaa.dir Go.Proofs.Ytknclflgghnojaa.nam Go.Proofs.Ytknclflgghnojaa.own
set_option linter.unusedVariables false
abbrev mark : DEnt := ([109, 97, 114, 107], -1)
attribute [local irreducible] box own sl old bptr eptr Qt Opr Run Cod Pst Drn
set_option maxRecDepth 100000 in
set_option maxHeartbeats 8000000 in
theorem law_any (q : Option Addr) (c : Nat) (l : List DEnt) (x : DEnt) (hn : l.length * 24 ≤ 140737488351232) (hs : ∀ p ∈ l, p.1.length ≤ 9223372036854775807) (hx : x.1.length ≤ 9223372036854775807) :
    Ct Try.prog 13 [.slice q l.length c, .agg #[.string (str x.1), .int .i64 x.2]] [sl 2 (.slice q l.length c) (l.map fE)] fun v H' => v = .bool true ∧ H' = [] := by
  have R1 := roomy_E q c l mark (by omega)
  have A1 := fun q c => add_any q c l x (by omega) hs hx
  have B1 := fun q c => cut_any q c l x.1 (by omega) hs hx
  have EI := fun qa qb ca cb => ct_true (equal_E qa qb ca cb l l (by unfold maxLen; omega) (by unfold maxLen; omega)) rfl
  have F1 := fun g => filled_E g l mark (by omega)
  have la := addL_len (l := l) (x := x)
  have lb := cutL_len (l := l) (s := x.1)
  generalize addL l x = A at *
  generalize cutL l x.1 = B at *
  generalize addE l x = e1 at *
  generalize cutE l x.1 = e2 at *
  have CA := fun q c => clone_E q c A (by omega)
  have CB := fun q c => clone_E q c B (by omega)
  have EA := fun qa qb ca cb => ct_true (equal_E qa qb ca cb A A (by unfold maxLen; omega) (by unfold maxLen; omega)) rfl
  have EB := fun qa qb ca cb => ct_true (equal_E qa qb ca cb B B (by unfold maxLen; omega) (by unfold maxLen; omega)) rfl
  have MK := add_any none 0 [] ([99], 0) (by decide) (by simp) (by decide)
  rw [show addE [] ([99], 0) = 0 from by decide +kernel, show addL [] ([99], 0) = [([99], 0)] from by decide +kernel] at MK
  (refine spec_enter Try.func13 Try.ntmps13 rfl rfl fun Fr => ?_; dsimp only [List.cons_append, List.nil_append, ini, Nat.reduceAdd])
  (repeat' (first | (apply run_qg 1; (focus rfl); (focus exact wt); (focus rfl); (focus (exact qg1))) | (apply run_qg 2; (focus rfl); (focus exact wt); (focus rfl); (focus (first | exact qg2 | exact qs2))) | (apply run_qg 5; (focus rfl); (focus exact wt); (focus rfl); (focus (exact qg5))) | refine cod_seq ?_ | refine cod_region ?_ | refine run_nil ?_ | refine pst_then ?_ | (apply run_osg 8; (focus rfl); (focus exact wt); (focus rfl); (focus (exact opr_box_agg rfl rfl)); (rintro _ _ ⟨b, rfl, rfl⟩)) | (apply run_osg 8; (focus rfl); (focus exact wt); (focus rfl); (focus (exact opr_new rfl)); (rintro _ _ ⟨b, rfl, rfl⟩)) | (apply run_ong 9; (focus rfl); (focus exact wt); (focus (exact opr_store_box_agg rfl rfl rfl (by exact pka) rfl rfl rfl (by exact spla))); (rintro _ _ ⟨rfl, rfl⟩))))
  (refine run_os wt rfl (opr_call_l rfl (R1) rfl (by exact lpa)) ?_; rintro _ _ ⟨_, ⟨g1, rfl, rfl⟩, rfl⟩; dsimp only [List.cons_append, List.nil_append])
  (repeat' (first | (apply run_qg 1; (focus rfl); (focus exact wt); (focus rfl); (focus (exact qg1))) | (apply run_qg 2; (focus rfl); (focus exact wt); (focus rfl); (focus (first | exact qg2 | exact qs2))) | refine cod_seq ?_ | refine cod_region ?_ | refine run_nil ?_ | refine pst_then ?_))
  (refine run_os wt rfl (opr_call_l rfl (A1 _ _) rfl (by exact lpa)) ?_; rintro _ _ ⟨_, ⟨qa, ca1, rfl, rfl⟩, rfl⟩; dsimp only [List.cons_append, List.nil_append])
  (repeat' (first | (apply run_qg 1; (focus rfl); (focus exact wt); (focus rfl); (focus (exact qg1))) | (apply run_qg 2; (focus rfl); (focus exact wt); (focus rfl); (focus (first | exact qg2 | exact qs2))) | (apply run_qg 3; (focus rfl); (focus exact wt); (focus rfl); (focus (first | exact qg3 | exact qs3))) | refine cod_seq ?_ | refine cod_region ?_ | refine run_nil ?_ | refine pst_then ?_))
  (refine run_os wt rfl (opr_call_l rfl (B1 _ _) rfl (by exact lpa)) ?_; rintro _ _ ⟨_, ⟨qb, cb1, rfl, rfl⟩, rfl⟩; dsimp only [List.cons_append, List.nil_append])
  (repeat' (first | (apply run_qg 1; (focus rfl); (focus exact wt); (focus rfl); (focus (exact qg1))) | (apply run_qg 2; (focus rfl); (focus exact wt); (focus rfl); (focus (first | exact qg2 | exact qs2))) | (apply run_qg 4; (focus rfl); (focus exact wt); (focus rfl); (focus (first | exact qg4 | exact qs4))) | refine cod_seq ?_ | refine cod_region ?_ | refine run_nil ?_ | refine pst_then ?_ | (apply cod_cond_f; (focus rfl)) | refine cod_skip ?_ | (apply run_osg 7; (focus rfl); (focus exact wt); (focus rfl); (focus (exact opr_call_ls (by rfl) (EI ..) (by rfl) lpa)); (rintro _ _ ⟨rfl, rfl⟩)) | (apply run_osg 7; (focus rfl); (focus exact wt); (focus rfl); (focus (exact opr_call_ls (by rfl) (F1 ..) (by rfl) lpa)); (rintro _ _ ⟨rfl, rfl⟩))))
  (refine run_os wt rfl (opr_call_l rfl (CA _ _) rfl (by exact lpa)) ?_; rintro _ _ ⟨_, ⟨qy, cy, rfl, rfl⟩, rfl⟩; dsimp only [List.cons_append, List.nil_append])
  (repeat' (first | (apply run_qg 1; (focus rfl); (focus exact wt); (focus rfl); (focus (exact qg1)))))
  (refine run_os wt rfl (opr_call_l rfl (CB _ _) rfl (by exact lpa)) ?_; rintro _ _ ⟨_, ⟨qz, cz, rfl, rfl⟩, rfl⟩; dsimp only [List.cons_append, List.nil_append])
  (repeat' (first | (apply run_qg 1; (focus rfl); (focus exact wt); (focus rfl); (focus (exact qg1))) | (apply run_qg 2; (focus rfl); (focus exact wt); (focus rfl); (focus (first | exact qg2 | exact qs2))) | (apply run_qg 5; (focus rfl); (focus exact wt); (focus rfl); (focus (exact qg5))) | refine cod_seq ?_ | refine cod_region ?_ | refine run_nil ?_ | refine pst_then ?_ | (apply run_osg 7; (focus rfl); (focus exact wt); (focus rfl); (focus (exact opr_call_ls (by rfl) ((spoil_E _ _ _ _ _ mark)) (by rfl) lpa)); (rintro _ _ ⟨rfl, rfl⟩)) | (apply run_osg 7; (focus rfl); (focus exact wt); (focus rfl); (focus (exact opr_call_ls (by rfl) (EA ..) (by rfl) lpa)); (rintro _ _ ⟨rfl, rfl⟩)) | (apply run_osg 7; (focus rfl); (focus exact wt); (focus rfl); (focus (exact opr_call_ls (by rfl) (EB ..) (by rfl) lpa)); (rintro _ _ ⟨rfl, rfl⟩))))
  (refine run_os wt rfl (opr_call_l rfl (MK) rfl (by exact lpa)) ?_; rintro _ _ ⟨_, ⟨qs, cs, rfl, rfl⟩, rfl⟩; dsimp only [List.cons_append, List.nil_append])
  (repeat' (first | (apply run_qg 1; (focus rfl); (focus exact wt); (focus rfl); (focus (exact qg1))) | (apply run_qg 4; (focus rfl); (focus exact wt); (focus rfl); (focus (first | exact qg4 | exact qs4))) | (apply run_qg 6; (focus rfl); (focus exact wt); (focus rfl); (focus (first | exact qs6 | exact qg6 | exact q_max rfl rfl rfl | exact q_sliceData rfl rfl (by omega) | exact q_sliceDataN rfl rfl | exact q_unsafeStringN rfl rfl rfl | exact q_cap_slice rfl rfl))) | refine cod_seq ?_ | refine cod_region ?_ | refine run_nil ?_ | refine pst_then ?_ | refine cod_ret ?_ | (apply run_osg 7; (focus rfl); (focus exact wt); (focus rfl); (focus (exact opr_call_ls (by rfl) (EB ..) (by rfl) lpa)); (rintro _ _ ⟨rfl, rfl⟩))))
  exact pst_fin rfl (by exact resa) _ (⟨rfl, rfl⟩) (by exact hsa)
theorem walk (W : World) (a : Value) (l : List (ByteArray × Int)) (ha : SliceAt W 2 a (l.map fun p : ByteArray × Int => [Value.string p.1, Value.int .i64 p.2])) (ga : ∀ p ∈ l, p.1.size ≤ maxLen ∧ (Lit.int .i64 p.2).wf = true) (na : l.length * Try.prog.bytesOf 62 ≤ reachBytes)
    (y : ByteArray) (hy : y.size ≤ maxLen) (z : Int) (wz : (Lit.int .i64 z).wf = true) :
    Calls Try.prog 13 #[a, .agg #[.string y, .int .i64 z]] W fun e w' => e = .returned (.bool true) ∧ Below W.heap.size W w' := by
  have hr : reachBytes = 140737488351232 := rfl
  unfold maxLen at hy
  have h24 : Try.prog.bytesOf 62 = 24 := by kernel_rfl
  rw [hr, h24] at na
  obtain ⟨u, rfl, hu⟩ := str_of y
  obtain ⟨qa, ca, rfl⟩ := slice_shape ha
  have hs : ∀ p ∈ l.map toE, p.1.length ≤ 9223372036854775807 := by
    intro p hp
    obtain ⟨x, hx, rfl⟩ := List.mem_map.1 hp
    have h := (ga x hx).1
    unfold maxLen at h
    show x.1.data.toList.length ≤ _
    simpa using h
  rw [ents_fE] at ha
  simp only [List.length_map] at ha ⊢
  have e2 : l.length = (l.map toE).length := by rw [List.length_map]
  rw [e2] at ha ⊢
  exact law_of_ct (sh_cons ha sh_nil) (law_any qa ca (l.map toE) (u, z) (by rw [← e2]; omega) hs (by show u.length ≤ _; omega))
end Go.Proofs.Ytknclflgghnojaa.lawDirOwn
