/-
  DirOrders: the walk.
-/
import Derived.Test.YtknclflgghnojaaDirLaw
import Derived.Test.YtknclflgghnojaaDirEq
import Derived.Test.YtknclflgghnojaaOpen2
namespace Go.Proofs.Ytknclflgghnojaa.lawDirOrders
open Go.RowKit kit sl Go.Proofs.Ytknclflgghnojaa.dir Go.Proofs.Ytknclflgghnojaa.nam
set_option linter.unusedVariables false
attribute [local irreducible] box own sl old bptr eptr Qt Opr Run Cod Pst Drn
set_option maxRecDepth 100000 in
set_option maxHeartbeats 8000000 in
theorem law_any (q : Option Addr) (c : Nat) (l : List DEnt) (x y : DEnt) (hn : l.length ≤ 1000000000000000000) (hs : ∀ p ∈ l, p.1.length ≤ 9223372036854775807) (hx : x.1.length ≤ 9223372036854775807) (hy : y.1.length ≤ 9223372036854775807) :
    Ct Try.prog 11 [.slice q l.length c, .agg #[.string (str x.1), .int .i64 x.2], .agg #[.string (str y.1), .int .i64 y.2]] [sl 2 (.slice q l.length c) (l.map fE)] fun v H' => v = .bool true ∧ H' = [] := by
  have Z1 := fun q c => add_any q c [([98], 0)] ([97], 1) (by decide) (by simp) (by decide)
  rw [show addE [([98], 0)] ([97], 1) = 0 from by decide +kernel, show addL [([98], 0)] ([97], 1) = [([97], 1), ([98], 0)] from by decide +kernel] at Z1
  have Z2 := fun qa qb ca cb => ct_true (equal_E qa qb ca cb [([97], 1), ([98], 0)] [([97], 1), ([98], 0)] (by decide) (by decide)) rfl
  have A1 := add_any q c l x hn hs hx
  have B1 := add_any q c l y hn hs hy
  by_cases h1 : addE l x = 0
  · by_cases h2 : addE l y = 0
    · have hX : addL l x = addD l x := by unfold addL; rw [if_pos h1]
      have hY : addL l y = addD l y := by unfold addL; rw [if_pos h2]
      obtain ⟨e1, e2⟩ := add_swap h1 h2
      have lX : (addD l x).length ≤ 24 := (addD_good h1).1
      have lY : (addD l y).length ≤ 24 := (addD_good h2).1
      have hnX : ∀ p ∈ addD l x, p.1.length ≤ 9223372036854775807 := by rw [← hX]; exact addL_names
      have hnY : ∀ p ∈ addD l y, p.1.length ≤ 9223372036854775807 := by rw [← hY]; exact addL_names
      have A2 := fun q c => add_any q c (addD l x) y (by omega) hnX hy
      have B2 := fun q c => add_any q c (addD l y) x (by omega) hnY hx
      rw [← e1, ← e2] at B2
      have hl := addL_len (l := addD l x) (x := y)
      have EQ := fun qa qb ca cb => ct_true (equal_E qa qb ca cb (addL (addD l x) y) (addL (addD l x) y) (by unfold maxLen; omega) (by unfold maxLen; omega)) rfl
      rw [h1, hX] at A1
      rw [h2, hY] at B1
      generalize addE (addD l x) y = e at *
      generalize addL (addD l x) y = res at *
      generalize addD l x = Lx at *
      generalize addD l y = Ly at *
      clear h1 h2 hX hY e1 e2 hnX hnY
      (refine spec_enter Try.func11 Try.ntmps11 rfl rfl fun Fr => ?_; dsimp only [List.cons_append, List.nil_append, ini, Nat.reduceAdd])
      (repeat' (first | (apply run_qg 1; (focus rfl); (focus exact wt); (focus rfl); (focus (exact qg1))) | (apply run_qg 5; (focus rfl); (focus exact wt); (focus rfl); (focus (exact qg5))) | refine cod_seq ?_ | refine cod_region ?_ | refine run_nil ?_ | refine pst_then ?_ | (apply run_osg 8; (focus rfl); (focus exact wt); (focus rfl); (focus (exact opr_box_agg rfl rfl)); (rintro _ _ ⟨b, rfl, rfl⟩)) | (apply run_osg 10; (focus rfl); (focus exact wt); (focus rfl); (focus (exact opr_buildSlice rfl rfl rfl (by exact blda) rfl rfl (by decide) rfl)); (rintro _ _ ⟨q, rfl, rfl⟩))))
      (refine run_os wt rfl (opr_call_l rfl (Z1 _ _) rfl (by exact lpa)) ?_; rintro _ _ ⟨_, ⟨qz, cz, rfl, rfl⟩, rfl⟩; dsimp only [List.cons_append, List.nil_append])
      (repeat' (first | (apply run_qg 1; (focus rfl); (focus exact wt); (focus rfl); (focus (exact qg1))) | (apply run_qg 2; (focus rfl); (focus exact wt); (focus rfl); (focus (first | exact qg2 | exact qs2))) | (apply run_qg 4; (focus rfl); (focus exact wt); (focus rfl); (focus (first | exact qg4 | exact qs4))) | (apply run_qg 5; (focus rfl); (focus exact wt); (focus rfl); (focus (exact qg5))) | refine cod_seq ?_ | refine cod_region ?_ | refine run_nil ?_ | refine pst_then ?_ | (apply cod_cond_f; (focus rfl)) | refine cod_skip ?_ | (apply run_osg 10; (focus rfl); (focus exact wt); (focus rfl); (focus (exact opr_buildSlice rfl rfl rfl (by exact blda) rfl rfl (by decide) rfl)); (rintro _ _ ⟨q, rfl, rfl⟩)) | (apply run_osg 7; (focus rfl); (focus exact wt); (focus rfl); (focus (exact opr_call_ls (by rfl) (Z2 ..) (by rfl) lpa)); (rintro _ _ ⟨rfl, rfl⟩))))
      (refine run_os wt rfl (opr_call_l rfl (A1) rfl (by exact lpa)) ?_; rintro _ _ ⟨_, ⟨qa, ca, rfl, rfl⟩, rfl⟩; dsimp only [List.cons_append, List.nil_append])
      (repeat' (first | (apply run_qg 1; (focus rfl); (focus exact wt); (focus rfl); (focus (exact qg1))) | (apply run_qg 2; (focus rfl); (focus exact wt); (focus rfl); (focus (first | exact qg2 | exact qs2))) | refine cod_seq ?_ | refine cod_region ?_ | refine run_nil ?_ | refine pst_then ?_))
      (refine run_os wt rfl (opr_call_l rfl (B1) rfl (by exact lpa)) ?_; rintro _ _ ⟨_, ⟨qb, cb, rfl, rfl⟩, rfl⟩; dsimp only [List.cons_append, List.nil_append])
      (repeat' (first | (apply run_qg 1; (focus rfl); (focus exact wt); (focus rfl); (focus (exact qg1))) | (apply run_qg 2; (focus rfl); (focus exact wt); (focus rfl); (focus (first | exact qg2 | exact qs2))) | (apply run_qg 4; (focus rfl); (focus exact wt); (focus rfl); (focus (first | exact qg4 | exact qs4))) | refine cod_seq ?_ | refine cod_region ?_ | refine run_nil ?_ | refine pst_then ?_ | (apply cod_cond_f; (focus rfl)) | refine cod_skip ?_))
      (refine run_os wt rfl (opr_call_l rfl (A2 _ _) rfl (by exact lpa)) ?_; rintro _ _ ⟨_, ⟨qc, cc, rfl, rfl⟩, rfl⟩; dsimp only [List.cons_append, List.nil_append])
      (repeat' (first | (apply run_qg 1; (focus rfl); (focus exact wt); (focus rfl); (focus (exact qg1))) | (apply run_qg 2; (focus rfl); (focus exact wt); (focus rfl); (focus (first | exact qg2 | exact qs2))) | refine cod_seq ?_ | refine cod_region ?_ | refine run_nil ?_ | refine pst_then ?_))
      (refine run_os wt rfl (opr_call_l rfl (B2 _ _) rfl (by exact lpa)) ?_; rintro _ _ ⟨_, ⟨qd, cd, rfl, rfl⟩, rfl⟩; dsimp only [List.cons_append, List.nil_append])
      (repeat' (first | (apply run_qg 1; (focus rfl); (focus exact wt); (focus rfl); (focus (exact qg1))) | (apply run_qg 4; (focus rfl); (focus exact wt); (focus rfl); (focus (first | exact qg4 | exact qs4))) | refine cod_seq ?_ | refine cod_region ?_ | refine run_nil ?_ | refine pst_then ?_ | refine cod_ret ?_ | (apply run_osg 7; (focus rfl); (focus exact wt); (focus rfl); (focus (exact opr_call_ls (by rfl) (EQ ..) (by rfl) lpa)); (rintro _ _ ⟨rfl, rfl⟩))))
      exact pst_fin rfl (by exact resa) _ (⟨rfl, rfl⟩) (by exact hsa)
    · generalize addE l x = e at *
      generalize addE l y = e' at *
      generalize addL l x = Lx at *
      generalize addL l y = Ly at *
      (refine spec_enter Try.func11 Try.ntmps11 rfl rfl fun Fr => ?_; dsimp only [List.cons_append, List.nil_append, ini, Nat.reduceAdd])
      (repeat' (first | (apply run_qg 1; (focus rfl); (focus exact wt); (focus rfl); (focus (exact qg1))) | (apply run_qg 5; (focus rfl); (focus exact wt); (focus rfl); (focus (exact qg5))) | refine cod_seq ?_ | refine cod_region ?_ | refine run_nil ?_ | refine pst_then ?_ | (apply run_osg 8; (focus rfl); (focus exact wt); (focus rfl); (focus (exact opr_box_agg rfl rfl)); (rintro _ _ ⟨b, rfl, rfl⟩)) | (apply run_osg 10; (focus rfl); (focus exact wt); (focus rfl); (focus (exact opr_buildSlice rfl rfl rfl (by exact blda) rfl rfl (by decide) rfl)); (rintro _ _ ⟨q, rfl, rfl⟩))))
      (refine run_os wt rfl (opr_call_l rfl (Z1 _ _) rfl (by exact lpa)) ?_; rintro _ _ ⟨_, ⟨qz, cz, rfl, rfl⟩, rfl⟩; dsimp only [List.cons_append, List.nil_append])
      (repeat' (first | (apply run_qg 1; (focus rfl); (focus exact wt); (focus rfl); (focus (exact qg1))) | (apply run_qg 2; (focus rfl); (focus exact wt); (focus rfl); (focus (first | exact qg2 | exact qs2))) | (apply run_qg 4; (focus rfl); (focus exact wt); (focus rfl); (focus (first | exact qg4 | exact qs4))) | (apply run_qg 5; (focus rfl); (focus exact wt); (focus rfl); (focus (exact qg5))) | refine cod_seq ?_ | refine cod_region ?_ | refine run_nil ?_ | refine pst_then ?_ | (apply cod_cond_f; (focus rfl)) | refine cod_skip ?_ | (apply run_osg 10; (focus rfl); (focus exact wt); (focus rfl); (focus (exact opr_buildSlice rfl rfl rfl (by exact blda) rfl rfl (by decide) rfl)); (rintro _ _ ⟨q, rfl, rfl⟩)) | (apply run_osg 7; (focus rfl); (focus exact wt); (focus rfl); (focus (exact opr_call_ls (by rfl) (Z2 ..) (by rfl) lpa)); (rintro _ _ ⟨rfl, rfl⟩))))
      (refine run_os wt rfl (opr_call_l rfl (A1) rfl (by exact lpa)) ?_; rintro _ _ ⟨_, ⟨qa, ca, rfl, rfl⟩, rfl⟩; dsimp only [List.cons_append, List.nil_append])
      (repeat' (first | (apply run_qg 1; (focus rfl); (focus exact wt); (focus rfl); (focus (exact qg1))) | (apply run_qg 2; (focus rfl); (focus exact wt); (focus rfl); (focus (first | exact qg2 | exact qs2))) | refine cod_seq ?_ | refine cod_region ?_ | refine run_nil ?_ | refine pst_then ?_))
      (refine run_os wt rfl (opr_call_l rfl (B1) rfl (by exact lpa)) ?_; rintro _ _ ⟨_, ⟨qb, cb, rfl, rfl⟩, rfl⟩; dsimp only [List.cons_append, List.nil_append])
      (repeat' (first | (apply run_qg 1; (focus rfl); (focus exact wt); (focus rfl); (focus (exact qg1))) | (apply run_qg 4; (focus rfl); (focus exact wt); (focus rfl); (focus (first | exact qg4 | exact qs4))) | refine cod_seq ?_ | refine cod_region ?_ | refine run_nil ?_ | refine pst_then ?_ | (apply cod_cond_t; (focus rfl)) | refine cod_ret ?_ | refine pst_then_ret ?_))
      exact pst_fin rfl (by exact resa) _ (⟨rfl, rfl⟩) (by exact hsa)
  · generalize addE l x = e at *
    generalize addE l y = e' at *
    generalize addL l x = Lx at *
    generalize addL l y = Ly at *
    (refine spec_enter Try.func11 Try.ntmps11 rfl rfl fun Fr => ?_; dsimp only [List.cons_append, List.nil_append, ini, Nat.reduceAdd])
    (repeat' (first | (apply run_qg 1; (focus rfl); (focus exact wt); (focus rfl); (focus (exact qg1))) | (apply run_qg 5; (focus rfl); (focus exact wt); (focus rfl); (focus (exact qg5))) | refine cod_seq ?_ | refine cod_region ?_ | refine run_nil ?_ | refine pst_then ?_ | (apply run_osg 8; (focus rfl); (focus exact wt); (focus rfl); (focus (exact opr_box_agg rfl rfl)); (rintro _ _ ⟨b, rfl, rfl⟩)) | (apply run_osg 10; (focus rfl); (focus exact wt); (focus rfl); (focus (exact opr_buildSlice rfl rfl rfl (by exact blda) rfl rfl (by decide) rfl)); (rintro _ _ ⟨q, rfl, rfl⟩))))
    (refine run_os wt rfl (opr_call_l rfl (Z1 _ _) rfl (by exact lpa)) ?_; rintro _ _ ⟨_, ⟨qz, cz, rfl, rfl⟩, rfl⟩; dsimp only [List.cons_append, List.nil_append])
    (repeat' (first | (apply run_qg 1; (focus rfl); (focus exact wt); (focus rfl); (focus (exact qg1))) | (apply run_qg 2; (focus rfl); (focus exact wt); (focus rfl); (focus (first | exact qg2 | exact qs2))) | (apply run_qg 4; (focus rfl); (focus exact wt); (focus rfl); (focus (first | exact qg4 | exact qs4))) | (apply run_qg 5; (focus rfl); (focus exact wt); (focus rfl); (focus (exact qg5))) | refine cod_seq ?_ | refine cod_region ?_ | refine run_nil ?_ | refine pst_then ?_ | (apply cod_cond_f; (focus rfl)) | refine cod_skip ?_ | (apply run_osg 10; (focus rfl); (focus exact wt); (focus rfl); (focus (exact opr_buildSlice rfl rfl rfl (by exact blda) rfl rfl (by decide) rfl)); (rintro _ _ ⟨q, rfl, rfl⟩)) | (apply run_osg 7; (focus rfl); (focus exact wt); (focus rfl); (focus (exact opr_call_ls (by rfl) (Z2 ..) (by rfl) lpa)); (rintro _ _ ⟨rfl, rfl⟩))))
    (refine run_os wt rfl (opr_call_l rfl (A1) rfl (by exact lpa)) ?_; rintro _ _ ⟨_, ⟨qa, ca, rfl, rfl⟩, rfl⟩; dsimp only [List.cons_append, List.nil_append])
    (repeat' (first | (apply run_qg 1; (focus rfl); (focus exact wt); (focus rfl); (focus (exact qg1))) | (apply run_qg 2; (focus rfl); (focus exact wt); (focus rfl); (focus (first | exact qg2 | exact qs2))) | refine cod_seq ?_ | refine cod_region ?_ | refine run_nil ?_ | refine pst_then ?_))
    (refine run_os wt rfl (opr_call_l rfl (B1) rfl (by exact lpa)) ?_; rintro _ _ ⟨_, ⟨qb, cb, rfl, rfl⟩, rfl⟩; dsimp only [List.cons_append, List.nil_append])
    (repeat' (first | (apply run_qg 1; (focus rfl); (focus exact wt); (focus rfl); (focus (exact qg1))) | (apply run_qg 4; (focus rfl); (focus exact wt); (focus rfl); (focus (first | exact qg4 | exact qs4))) | refine cod_seq ?_ | refine cod_region ?_ | refine run_nil ?_ | refine pst_then ?_ | (apply cod_cond_t; (focus rfl)) | refine cod_ret ?_ | refine pst_then_ret ?_ | (apply run_offs; (focus rfl); (focus rfl); (focus rfl))))
    exact pst_fin rfl (by exact resa) _ (⟨rfl, rfl⟩) (by exact hsa)
theorem walk (W : World) (a : Value) (l : List (ByteArray × Int)) (ha : SliceAt W 2 a (l.map fun p : ByteArray × Int => [Value.string p.1, Value.int .i64 p.2])) (ga : ∀ p ∈ l, p.1.size ≤ maxLen ∧ (Lit.int .i64 p.2).wf = true) (na : l.length * Try.prog.bytesOf 62 ≤ reachBytes)
    (y : ByteArray) (hy : y.size ≤ maxLen) (z : Int) (wz : (Lit.int .i64 z).wf = true) (y2 : ByteArray) (hy2 : y2.size ≤ maxLen) (z2 : Int) (wz2 : (Lit.int .i64 z2).wf = true) :
    Calls Try.prog 11 #[a, .agg #[.string y, .int .i64 z], .agg #[.string y2, .int .i64 z2]] W fun e w' => e = .returned (.bool true) ∧ Below W.heap.size W w' := by
  have hr : reachBytes = 140737488351232 := rfl
  unfold maxLen at hy hy2
  have h24 : Try.prog.bytesOf 62 = 24 := by kernel_rfl
  rw [hr, h24] at na
  obtain ⟨s, rfl, hl⟩ := str_of y2
  obtain ⟨u, rfl, hu⟩ := str_of y
  obtain ⟨qa, ca, rfl⟩ := slice_shape ha
  have hs : ∀ p ∈ l.map toE, p.1.length ≤ 9223372036854775807 := by
    intro p hp
    obtain ⟨x, hx, rfl⟩ := List.mem_map.1 hp
    have h := (ga x hx).1
    unfold maxLen at h
    show x.1.data.toList.length ≤ _
    simpa using h
  rw [ents_fE] at ha
  simp only [List.length_map] at ha ⊢
  have e2 : l.length = (l.map toE).length := by rw [List.length_map]
  rw [e2] at ha ⊢
  exact law_of_ct (sh_cons ha sh_nil) (law_any qa ca (l.map toE) (u, z) (s, z2) (by rw [← e2]; omega) hs (by show u.length ≤ _; omega) (by show s.length ≤ _; omega))
end Go.Proofs.Ytknclflgghnojaa.lawDirOrders
