/-
  DirAdds: the walk.
-/
import Derived.Test.YtknclflgghnojaaDirLaw
import Derived.Test.YtknclflgghnojaaDirEq
import Derived.Test.YtknclflgghnojaaOpen2
namespace Go.Proofs.Ytknclflgghnojaa.lawDirAdds
open Go.RowKit kit sl Go.Proofs.Ytknclflgghnojaa.dir Go.Proofs.Ytknclflgghnojaa.nam
set_option linter.unusedVariables false
attribute [local irreducible] box own sl old bptr eptr Qt Opr Run Cod Pst Drn
set_option maxRecDepth 100000 in
set_option maxHeartbeats 8000000 in
theorem law_any (q : Option Addr) (c : Nat) (l : List DEnt) (x : DEnt) (s : List UInt8) (hn : l.length ≤ 1000000000000000000) (hs : ∀ p ∈ l, p.1.length ≤ 9223372036854775807) (hx : x.1.length ≤ 9223372036854775807) (ht : s.length ≤ 9223372036854775807) :
    Ct Try.prog 12 [.slice q l.length c, .agg #[.string (str x.1), .int .i64 x.2], .string (str s)] [sl 2 (.slice q l.length c) (l.map fE)] fun v H' => v = .bool true ∧ H' = [] := by
  have Z1 := add_any none 0 [] ([97], 3) (by decide) (by simp) (by decide)
  rw [show addE [] ([97], 3) = 0 from by decide +kernel, show addL [] ([97], 3) = [([97], 3)] from by decide +kernel] at Z1
  have A1 := add_any q c l x hn hs hx
  by_cases h : addE l x = 0
  · have hL : addL l x = addD l x := by unfold addL; rw [if_pos h]
    have hl24 : (addD l x).length ≤ 24 := (addD_good h).1
    have hnm : ∀ p ∈ addD l x, p.1.length ≤ 9223372036854775807 := fun p hp => by
      have := (fitE_zero ((addD_good h).2.1 p hp)).1.2.2.2.1
      omega
    have ll24 : l.length ≤ 24 := (addE_zero h).1.1
    have F1 := fun q c => find_any q c (addD l x) x.1 (by omega) hnm hx
    rw [(add_found h).1, (add_found h).2] at F1
    have K1 := fun q c => check_any q c (addD l x) (by omega) hnm
    rw [(checkD_iff _).2 (addD_good h)] at K1
    have F2 := find_any q c l s hn hs ht
    have F3 := fun q c => find_any q c (addD l x) s (by omega) hnm ht
    have C1 := fun q c => cut_any q c (addD l x) x.1 (by omega) hnm hx
    rw [add_cut h, show cutE (addD l x) x.1 = 0 from (add_found h).1] at C1
    have EQ := fun qa qb ca cb => ct_true (equal_E qa qb ca cb l l (by unfold maxLen; omega) (by unfold maxLen; omega)) rfl
    have ho := fun hs : s ≠ x.1 => add_other h hs
    rw [h, hL] at A1
    by_cases e : s = x.1
    · have e1 : (s == x.1) = true := by rw [e]; simp
      generalize findE l s = e2 at *
      generalize findV l s = v2 at *
      generalize findE (addD l x) s = e3 at *
      generalize findV (addD l x) s = v3 at *
      generalize addD l x = L at *
      clear h hL ho e hnm
      (refine spec_enter Try.func12 Try.ntmps12 rfl rfl fun Fr => ?_; dsimp only [List.cons_append, List.nil_append, ini, Nat.reduceAdd])
      (repeat' (first | (apply run_qg 1; (focus rfl); (focus exact wt); (focus rfl); (focus (exact qg1))) | (apply run_qg 5; (focus rfl); (focus exact wt); (focus rfl); (focus (exact qg5))) | refine cod_seq ?_ | refine cod_region ?_ | refine run_nil ?_ | refine pst_then ?_ | (apply run_osg 8; (focus rfl); (focus exact wt); (focus rfl); (focus (exact opr_box_agg rfl rfl)); (rintro _ _ ⟨b, rfl, rfl⟩))))
      (refine run_os wt rfl (opr_call_l rfl (Z1) rfl (by exact lpa)) ?_; rintro _ _ ⟨_, ⟨qz, cz, rfl, rfl⟩, rfl⟩; dsimp only [List.cons_append, List.nil_append])
      (repeat' (first | (apply run_qg 1; (focus rfl); (focus exact wt); (focus rfl); (focus (exact qg1))) | (apply run_qg 2; (focus rfl); (focus exact wt); (focus rfl); (focus (first | exact qg2 | exact qs2))) | (apply run_qg 4; (focus rfl); (focus exact wt); (focus rfl); (focus (first | exact qg4 | exact qs4))) | (apply run_qg 6; (focus rfl); (focus exact wt); (focus rfl); (focus (first | exact qs6 | exact qg6 | exact q_max rfl rfl rfl | exact q_sliceData rfl rfl (by omega) | exact q_sliceDataN rfl rfl | exact q_unsafeStringN rfl rfl rfl | exact q_cap_slice rfl rfl))) | refine cod_seq ?_ | refine cod_region ?_ | refine run_nil ?_ | refine pst_then ?_ | (apply cod_cond_f; (focus rfl)) | refine cod_skip ?_))
      (refine run_os wt rfl (opr_call_l rfl (A1) rfl (by exact lpa)) ?_; rintro _ _ ⟨_, ⟨qa, ca, rfl, rfl⟩, rfl⟩; dsimp only [List.cons_append, List.nil_append])
      (repeat' (first | (apply run_qg 1; (focus rfl); (focus exact wt); (focus rfl); (focus (exact qg1))) | (apply run_qg 2; (focus rfl); (focus exact wt); (focus rfl); (focus (first | exact qg2 | exact qs2))) | (apply run_qg 3; (focus rfl); (focus exact wt); (focus rfl); (focus (first | exact qg3 | exact qs3))) | (apply run_qg 4; (focus rfl); (focus exact wt); (focus rfl); (focus (first | exact qg4 | exact qs4))) | refine cod_seq ?_ | refine cod_region ?_ | refine run_nil ?_ | refine pst_then ?_ | (apply cod_cond_f; (focus rfl)) | refine cod_skip ?_ | (apply run_offs; (focus rfl); (focus rfl); (focus rfl)) | (apply run_offus; (focus rfl); (focus rfl); (focus rfl)) | (apply run_osg 7; (focus rfl); (focus exact wt); (focus rfl); (focus (exact opr_call_ls (by rfl) (F1 ..) (by rfl) lpa)); (rintro _ _ ⟨rfl, rfl⟩)) | (apply run_osg 7; (focus rfl); (focus exact wt); (focus rfl); (focus (exact opr_call_ls (by rfl) (K1 ..) (by rfl) lpa)); (rintro _ _ ⟨rfl, rfl⟩)) | (apply run_osg 7; (focus rfl); (focus exact wt); (focus rfl); (focus (exact opr_call_ls (by rfl) (F2 ..) (by rfl) lpa)); (rintro _ _ ⟨rfl, rfl⟩)) | (apply run_osg 7; (focus rfl); (focus exact wt); (focus rfl); (focus (exact opr_call_ls (by rfl) (F3 ..) (by rfl) lpa)); (rintro _ _ ⟨rfl, rfl⟩))))
      (refine run_os wt rfl (opr_call_l rfl (C1 _ _) rfl (by exact lpa)) ?_; rintro _ _ ⟨_, ⟨qb, cb, rfl, rfl⟩, rfl⟩; dsimp only [List.cons_append, List.nil_append])
      (repeat' (first | (apply run_qg 1; (focus rfl); (focus exact wt); (focus rfl); (focus (exact qg1))) | (apply run_qg 4; (focus rfl); (focus exact wt); (focus rfl); (focus (first | exact qg4 | exact qs4))) | refine cod_seq ?_ | refine cod_region ?_ | refine run_nil ?_ | refine pst_then ?_ | refine cod_ret ?_ | (apply run_osg 7; (focus rfl); (focus exact wt); (focus rfl); (focus (exact opr_call_ls (by rfl) (EQ ..) (by rfl) lpa)); (rintro _ _ ⟨rfl, rfl⟩))))
      exact pst_fin rfl (by exact resa) _ (⟨rfl, rfl⟩) (by exact hsa)
    · have e1 : (s == x.1) = false := by simpa using e
      rw [(ho e).1, (ho e).2] at F3
      generalize findE l s = e2 at *
      generalize findV l s = v2 at *
      generalize addD l x = L at *
      clear h hL ho e hnm
      (refine spec_enter Try.func12 Try.ntmps12 rfl rfl fun Fr => ?_; dsimp only [List.cons_append, List.nil_append, ini, Nat.reduceAdd])
      (repeat' (first | (apply run_qg 1; (focus rfl); (focus exact wt); (focus rfl); (focus (exact qg1))) | (apply run_qg 5; (focus rfl); (focus exact wt); (focus rfl); (focus (exact qg5))) | refine cod_seq ?_ | refine cod_region ?_ | refine run_nil ?_ | refine pst_then ?_ | (apply run_osg 8; (focus rfl); (focus exact wt); (focus rfl); (focus (exact opr_box_agg rfl rfl)); (rintro _ _ ⟨b, rfl, rfl⟩))))
      (refine run_os wt rfl (opr_call_l rfl (Z1) rfl (by exact lpa)) ?_; rintro _ _ ⟨_, ⟨qz, cz, rfl, rfl⟩, rfl⟩; dsimp only [List.cons_append, List.nil_append])
      (repeat' (first | (apply run_qg 1; (focus rfl); (focus exact wt); (focus rfl); (focus (exact qg1))) | (apply run_qg 2; (focus rfl); (focus exact wt); (focus rfl); (focus (first | exact qg2 | exact qs2))) | (apply run_qg 4; (focus rfl); (focus exact wt); (focus rfl); (focus (first | exact qg4 | exact qs4))) | (apply run_qg 6; (focus rfl); (focus exact wt); (focus rfl); (focus (first | exact qs6 | exact qg6 | exact q_max rfl rfl rfl | exact q_sliceData rfl rfl (by omega) | exact q_sliceDataN rfl rfl | exact q_unsafeStringN rfl rfl rfl | exact q_cap_slice rfl rfl))) | refine cod_seq ?_ | refine cod_region ?_ | refine run_nil ?_ | refine pst_then ?_ | (apply cod_cond_f; (focus rfl)) | refine cod_skip ?_))
      (refine run_os wt rfl (opr_call_l rfl (A1) rfl (by exact lpa)) ?_; rintro _ _ ⟨_, ⟨qa, ca, rfl, rfl⟩, rfl⟩; dsimp only [List.cons_append, List.nil_append])
      (repeat' (first | (apply run_qg 1; (focus rfl); (focus exact wt); (focus rfl); (focus (exact qg1))) | (apply run_qg 2; (focus rfl); (focus exact wt); (focus rfl); (focus (first | exact qg2 | exact qs2))) | (apply run_qg 3; (focus rfl); (focus exact wt); (focus rfl); (focus (first | exact qg3 | exact qs3))) | (apply run_qg 4; (focus rfl); (focus exact wt); (focus rfl); (focus (first | exact qg4 | exact qs4))) | refine cod_seq ?_ | refine cod_region ?_ | refine run_nil ?_ | refine pst_then ?_ | (apply cod_cond_f; (focus rfl)) | refine cod_skip ?_ | (apply run_osg 7; (focus rfl); (focus exact wt); (focus rfl); (focus (exact opr_call_ls (by rfl) (F1 ..) (by rfl) lpa)); (rintro _ _ ⟨rfl, rfl⟩)) | (apply run_osg 7; (focus rfl); (focus exact wt); (focus rfl); (focus (exact opr_call_ls (by rfl) (K1 ..) (by rfl) lpa)); (rintro _ _ ⟨rfl, rfl⟩)) | (apply run_osg 7; (focus rfl); (focus exact wt); (focus rfl); (focus (exact opr_call_ls (by rfl) (F2 ..) (by rfl) lpa)); (rintro _ _ ⟨rfl, rfl⟩)) | (apply run_osg 7; (focus rfl); (focus exact wt); (focus rfl); (focus (exact opr_call_ls (by rfl) (F3 ..) (by rfl) lpa)); (rintro _ _ ⟨rfl, rfl⟩))))
      (refine run_os wt rfl (opr_call_l rfl (C1 _ _) rfl (by exact lpa)) ?_; rintro _ _ ⟨_, ⟨qb, cb, rfl, rfl⟩, rfl⟩; dsimp only [List.cons_append, List.nil_append])
      (repeat' (first | (apply run_qg 1; (focus rfl); (focus exact wt); (focus rfl); (focus (exact qg1))) | (apply run_qg 4; (focus rfl); (focus exact wt); (focus rfl); (focus (first | exact qg4 | exact qs4))) | refine cod_seq ?_ | refine cod_region ?_ | refine run_nil ?_ | refine pst_then ?_ | refine cod_ret ?_ | (apply run_osg 7; (focus rfl); (focus exact wt); (focus rfl); (focus (exact opr_call_ls (by rfl) (EQ ..) (by rfl) lpa)); (rintro _ _ ⟨rfl, rfl⟩))))
      exact pst_fin rfl (by exact resa) _ (⟨rfl, rfl⟩) (by exact hsa)
  · have hL : addL l x = [] := by unfold addL; rw [if_neg h]
    rw [hL] at A1
    generalize addE l x = e at *
    (refine spec_enter Try.func12 Try.ntmps12 rfl rfl fun Fr => ?_; dsimp only [List.cons_append, List.nil_append, ini, Nat.reduceAdd])
    (repeat' (first | (apply run_qg 1; (focus rfl); (focus exact wt); (focus rfl); (focus (exact qg1))) | (apply run_qg 5; (focus rfl); (focus exact wt); (focus rfl); (focus (exact qg5))) | refine cod_seq ?_ | refine cod_region ?_ | refine run_nil ?_ | refine pst_then ?_ | (apply run_osg 8; (focus rfl); (focus exact wt); (focus rfl); (focus (exact opr_box_agg rfl rfl)); (rintro _ _ ⟨b, rfl, rfl⟩))))
    (refine run_os wt rfl (opr_call_l rfl (Z1) rfl (by exact lpa)) ?_; rintro _ _ ⟨_, ⟨qz, cz, rfl, rfl⟩, rfl⟩; dsimp only [List.cons_append, List.nil_append])
    (repeat' (first | (apply run_qg 1; (focus rfl); (focus exact wt); (focus rfl); (focus (exact qg1))) | (apply run_qg 2; (focus rfl); (focus exact wt); (focus rfl); (focus (first | exact qg2 | exact qs2))) | (apply run_qg 4; (focus rfl); (focus exact wt); (focus rfl); (focus (first | exact qg4 | exact qs4))) | (apply run_qg 6; (focus rfl); (focus exact wt); (focus rfl); (focus (first | exact qs6 | exact qg6 | exact q_max rfl rfl rfl | exact q_sliceData rfl rfl (by omega) | exact q_sliceDataN rfl rfl | exact q_unsafeStringN rfl rfl rfl | exact q_cap_slice rfl rfl))) | refine cod_seq ?_ | refine cod_region ?_ | refine run_nil ?_ | refine pst_then ?_ | (apply cod_cond_f; (focus rfl)) | refine cod_skip ?_))
    (refine run_os wt rfl (opr_call_l rfl (A1) rfl (by exact lpa)) ?_; rintro _ _ ⟨_, ⟨qa, ca, rfl, rfl⟩, rfl⟩; dsimp only [List.cons_append, List.nil_append])
    (repeat' (first | (apply run_qg 1; (focus rfl); (focus exact wt); (focus rfl); (focus (exact qg1))) | (apply run_qg 4; (focus rfl); (focus exact wt); (focus rfl); (focus (first | exact qg4 | exact qs4))) | (apply run_qg 6; (focus rfl); (focus exact wt); (focus rfl); (focus (first | exact qs6 | exact qg6 | exact q_max rfl rfl rfl | exact q_sliceData rfl rfl (by omega) | exact q_sliceDataN rfl rfl | exact q_unsafeStringN rfl rfl rfl | exact q_cap_slice rfl rfl))) | refine cod_seq ?_ | refine cod_region ?_ | refine run_nil ?_ | refine pst_then ?_ | (apply cod_cond_t; (focus rfl)) | refine cod_ret ?_ | refine pst_then_ret ?_))
    exact pst_fin rfl (by exact resa) _ (⟨rfl, rfl⟩) (by exact hsa)
theorem walk (W : World) (a : Value) (l : List (ByteArray × Int)) (ha : SliceAt W 2 a (l.map fun p : ByteArray × Int => [Value.string p.1, Value.int .i64 p.2])) (ga : ∀ p ∈ l, p.1.size ≤ maxLen ∧ (Lit.int .i64 p.2).wf = true) (na : l.length * Try.prog.bytesOf 62 ≤ reachBytes)
    (y : ByteArray) (hy : y.size ≤ maxLen) (z : Int) (wz : (Lit.int .i64 z).wf = true) (t : ByteArray) (ht : t.size ≤ reachBytes) :
    Calls Try.prog 12 #[a, .agg #[.string y, .int .i64 z], .string t] W fun e w' => e = .returned (.bool true) ∧ Below W.heap.size W w' := by
  have hr : reachBytes = 140737488351232 := rfl
  unfold maxLen at hy
  have hn := len_bound (by kernel_rfl) na
  unfold maxLen at hn
  have h24 : Try.prog.bytesOf 62 = 24 := by kernel_rfl
  rw [hr, h24] at na
  obtain ⟨s, rfl, hl⟩ := str_of t
  obtain ⟨u, rfl, hu⟩ := str_of y
  obtain ⟨qa, ca, rfl⟩ := slice_shape ha
  have hs : ∀ p ∈ l.map toE, p.1.length ≤ 9223372036854775807 := by
    intro p hp
    obtain ⟨x, hx, rfl⟩ := List.mem_map.1 hp
    have h := (ga x hx).1
    unfold maxLen at h
    show x.1.data.toList.length ≤ _
    simpa using h
  rw [ents_fE] at ha
  simp only [List.length_map] at ha ⊢
  have e2 : l.length = (l.map toE).length := by rw [List.length_map]
  rw [e2] at ha ⊢
  exact law_of_ct (sh_cons ha sh_nil) (law_any qa ca (l.map toE) (u, z) s (by rw [← e2]; omega) hs (by show u.length ≤ _; omega) (by omega))
end Go.Proofs.Ytknclflgghnojaa.lawDirAdds
