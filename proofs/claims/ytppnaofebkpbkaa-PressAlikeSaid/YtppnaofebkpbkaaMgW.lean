/-
  Several texts in one: WalkPressAlike.
-/
import Derived.Test.YtppnaofebkpbkaaMgT
import Derived.Test.YtppnaofebkpbkaaMgP
import Derived.Test.YtppnaofebkpbkaaOpen2
/-
  PressAlike: the walk. (SAFE)
-/
namespace Go.Proofs.Ytppnaofebkpbkaa.lawPressAlike
open Go.RowKit kit sl Go.Proofs.Ytppnaofebkpbkaa.press
set_option linter.unusedVariables false
theorem within_ct (k n : Int) (h1 : 1 ≤ n) (h2 : n ≤ 9223372036854775807) : Ct Try.prog 16 [.int .i64 k, .int .i64 n] [] fun v H' => v = .int .i64 (within.withinF k n) ∧ H' = [] :=
  ct_of_calls fun W _ => (within.within_any k n h1 h2 W).mono fun e w' ⟨h1, h2⟩ => ⟨h1, by rw [h2]; exact Below.refl _ _⟩
theorem alike {b : UInt8} {n : Nat} {t : List UInt8} (hn : 128 ≤ n) (hn2 : n ≤ 512) (h : PressR (List.replicate n b) t) : t.length ≤ 100 := by
  have l1 := put_len n
  rcases h with ⟨_, rfl⟩ | ⟨_, out, hF, ⟨_, rfl⟩ | ⟨h2, rfl⟩⟩
  · rw [List.length_replicate, List.length_cons]
    omega
  · exact alike_len hn hn2 hF
  · have h3 := alike_len hn hn2 hF
    have h4 : (rawB (List.replicate n b)).length = 1 + (put.putB n).length + n := by
      unfold rawB
      rw [List.length_replicate, List.length_append, List.length_cons, List.length_replicate]
      omega
    omega
/-- the first k bytes are set -/
def fillB (b : UInt8) (n k : Nat) : List UInt8 := List.replicate k b ++ List.replicate (n - k) 0
theorem fill_set {b : UInt8} {n k : Nat} (h : k < n) : (fillB b n k)[k]? = some 0 ∧ (fillB b n k).set k b = fillB b n (k + 1) := by
  have e : List.replicate (n - k) (0 : UInt8) = 0 :: List.replicate (n - (k + 1)) 0 := by
    rw [show n - k = (n - (k + 1)) + 1 by omega, List.replicate_succ]
  have hl : (List.replicate k b).length = k := List.length_replicate
  unfold fillB
  rw [e]
  refine ⟨?_, ?_⟩
  · rw [List.getElem?_append_right (by omega), hl, Nat.sub_self]
    rfl
  · rw [List.set_append_right _ _ (by omega), hl, Nat.sub_self, List.replicate_succ', List.append_assoc]
    rfl
theorem fill_len {b : UInt8} {n k : Nat} (h : k ≤ n) : (fillB b n k).length = n := by
  unfold fillB
  rw [List.length_append, List.length_replicate, List.length_replicate]
  omega
theorem fill_all (b : UInt8) (n : Nat) : fillB b n n = List.replicate n b := by
  unfold fillB
  rw [Nat.sub_self]
  exact List.append_nil _
attribute [local irreducible] box own sl old bptr eptr Qt Opr Run Cod Pst Drn
set_option maxRecDepth 100000 in
set_option maxHeartbeats 8000000 in
theorem law_any (b : UInt8) (k : Int) :
    Ct Try.prog 7 [.int .u8 (b.toNat : Int), .int .i64 k] [] fun v H' => v = .bool true ∧ H' = [] := by
  have W0 := within_ct k 385 (by decide) (by decide)
  have hwb := within.withinF_bd k 385 (by decide)
  obtain ⟨m, hm⟩ := Int.eq_ofNat_of_zero_le hwb.1
  rw [hm] at W0 hwb
  obtain ⟨n, hn⟩ : ∃ n, n = 128 + m := ⟨_, rfl⟩
  have hnI : (128 : Int) + (m : Int) = (n : Int) := by omega
  have hrl : (List.replicate n b).length = n := List.length_replicate
  have F1 := press_any (List.replicate n b) (by omega)
  have OP := fun t hR => open_any (s := List.replicate n b) (t := t) (by omega) hR
  have AL := fun t => alike (b := b) (n := n) (t := t) (by omega) (by omega)
  have hz : List.replicate n (0 : UInt8) = fillB b n 0 := rfl
  have hfa := fill_all b n
  (refine spec_enter Try.func7 Try.ntmps7 rfl rfl fun Fr => ?_; dsimp only [List.cons_append, List.nil_append, ini, Nat.reduceAdd])
  (repeat' (first | (apply run_qg 1; (focus rfl); (focus exact wt); (focus rfl); (focus (exact qg1))) | (apply run_qg 4; (focus rfl); (focus exact wt); (focus rfl); (focus (first | exact qg4 | exact qs4))) | refine cod_seq ?_ | refine cod_region ?_ | refine run_nil ?_ | refine pst_then ?_ | (apply run_osg 7; (focus rfl); (focus exact wt); (focus rfl); (focus (exact opr_call_ls (by rfl) (W0 ..) (by rfl) lpa)); (rintro _ _ ⟨rfl, rfl⟩)) | fail))
  rw [hnI]
  skip
  refine run_os wt rfl (opr_make (fY) ((0 : UInt8)) (c := n) rfl rfl rfl (by first | rfl | omega) (by first | rfl | omega) rfl rfl (by omega) (by (unfold maxLen); omega)) ?_
  rintro _ _ ⟨q1, rfl, rfl⟩
  rw [hz]
  (repeat' (first | (apply run_qg 1; (focus rfl); (focus exact wt); (focus rfl); (focus (exact qg1))) | (apply run_qg 6; (focus rfl); (focus exact wt); (focus rfl); (focus (first | exact qs6 | exact qg6 | exact q_max rfl rfl rfl | exact q_sliceData rfl rfl (by omega) | exact q_sliceDataN rfl rfl | exact q_unsafeStringN rfl rfl rfl | exact q_cap_slice rfl rfl))) | refine cod_seq ?_ | refine cod_region ?_ | refine run_nil ?_ | refine pst_then ?_ | refine cod_block ?_ | fail))
  (refine cod_loop_rw (σ := Nat) (fun i => i ≤ n) (fun i => [(18, .int .i64 (i : Int))]) (fun i => [own (.slice q1 n n) 5 1 n (flat fY (fillB b n i))]) _ (fun i => n - i) (0) (by exact Nat.zero_le _) (by exact fsa) (by (first | exact HSub.of_picks_rest (by exact pca))) (fun i hi => ?_); dsimp only [List.cons_append, List.nil_append])
  rcases Nat.lt_or_ge i n with hlt | hge
  · obtain ⟨g1, g2⟩ := fill_set (b := b) hlt
    have gl := fill_len (b := b) hi
    (repeat' (first | (apply run_qg 1; (focus rfl); (focus exact wt); (focus rfl); (focus (exact qg1))) | (apply run_qg 3; (focus rfl); (focus exact wt); (focus rfl); (focus (first | exact qg3 | exact qs3))) | (apply run_qg 4; (focus rfl); (focus exact wt); (focus rfl); (focus (first | exact qg4 | exact qs4))) | refine cod_seq ?_ | refine cod_region ?_ | refine run_nil ?_ | refine pst_then ?_ | (apply cod_cond_t; (focus rfl)) | refine cod_block ?_ | refine cod_skip ?_ | fail))
    (refine run_on wt (opr_store_ownm (f := fY) (q' := b) rfl rfl rfl rfl (by exact pka) rfl (by omega) (by intro _; rfl) (by assumption) rfl rfl (by rfl)) ?_; rintro _ _ ⟨rfl, rfl⟩)
    rw [g2]
    (repeat' (first | (apply run_qg 1; (focus rfl); (focus exact wt); (focus rfl); (focus (exact qg1))) | (apply run_qg 4; (focus rfl); (focus exact wt); (focus rfl); (focus (first | exact qg4 | exact qs4))) | refine cod_region ?_ | refine run_nil ?_ | refine pst_then ?_ | refine pst_block ?_ | fail))
    refine pst_again (i + 1) ?_ (FSub.of (by (try dsimp only); exact fsa)) (by (try dsimp only); exact hsa) ?_
    · exact hlt
    · show n - (i + 1) < n - i
      omega
  · have hin : i = n := by omega
    rw [hin, hfa]
    have hll : n = (List.replicate n b).length := hrl.symm
    generalize List.replicate n b = s at *
    have e1 : (s == s) = true := by simp
    (repeat' (first | (apply run_qg 1; (focus rfl); (focus exact wt); (focus rfl); (focus (exact qg1))) | (apply run_qg 4; (focus rfl); (focus exact wt); (focus rfl); (focus (first | exact qg4 | exact qs4))) | (apply run_qg 11; (focus rfl); (focus exact wt); (focus rfl); (focus (exact qs11))) | refine cod_seq ?_ | refine cod_region ?_ | refine run_nil ?_ | refine pst_then ?_ | (apply cod_cond_f; (focus rfl)) | refine cod_exit ?_ | refine pst_block_here ?_ | refine pst_then_exit ?_ | fail))
    (refine run_os wt rfl (opr_call_l rfl (F1) rfl (by exact lpa)) ?_; rintro _ _ ⟨_, ⟨t, hF, rfl, rfl⟩, rfl⟩; dsimp only [List.cons_append, List.nil_append])
    have OP := OP t hF
    have AL := AL t hF
    (repeat' (first | (apply run_qg 1; (focus rfl); (focus exact wt); (focus rfl); (focus (exact qg1))) | (apply run_qg 4; (focus rfl); (focus exact wt); (focus rfl); (focus (first | exact qg4 | exact qs4))) | (apply run_qg 6; (focus rfl); (focus exact wt); (focus rfl); (focus (first | exact qs6 | exact qg6 | exact q_max rfl rfl rfl | exact q_sliceData rfl rfl (by omega) | exact q_sliceDataN rfl rfl | exact q_unsafeStringN rfl rfl rfl | exact q_cap_slice rfl rfl))) | (apply run_qg 11; (focus rfl); (focus exact wt); (focus rfl); (focus (exact qs11))) | refine cod_seq ?_ | refine cod_region ?_ | refine run_nil ?_ | refine pst_then ?_ | refine cod_ret ?_ | (apply run_osg 7; (focus rfl); (focus exact wt); (focus rfl); (focus (exact opr_call_ls (by rfl) (OP ..) (by rfl) lpa)); (rintro _ _ ⟨rfl, rfl⟩)) | fail))
    exact pst_fin rfl (by exact resa) _ (⟨rfl, rfl⟩) (by exact hsa)
theorem walk (a : Int) (wa : (Lit.int .u8 a).wf = true) (k : Int) (wk : (Lit.int .i64 k).wf = true) (W : World) :
    Calls Try.prog 7 #[.int .u8 a, .int .i64 k] W fun e w' => e = .returned (.bool true) ∧ Below W.heap.size W w' := by
  have h : 0 ≤ a ∧ a ≤ 255 := by
    simp [Lit.wf, IntKind.min, IntKind.max, IntKind.signed, IntKind.bits] at wa
    omega
  obtain ⟨n, rfl⟩ := Int.eq_ofNat_of_zero_le h.1
  have e : (n : Int) = ((UInt8.ofNat n).toNat : Int) := by
    rw [UInt8.toNat_ofNat']
    omega
  rw [e]
  exact law_of_ct sh_nil (law_any (UInt8.ofNat n) k)
end Go.Proofs.Ytppnaofebkpbkaa.lawPressAlike
