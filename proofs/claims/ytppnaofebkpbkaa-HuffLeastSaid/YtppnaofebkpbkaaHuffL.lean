/-
  huff.Lens: the walk.
-/
import Derived.Test.YtppnaofebkpbkaaHuffP
import Derived.Test.YtppnaofebkpbkaaHuffLaw
namespace Go.Proofs.Ytppnaofebkpbkaa.huff
open Go.RowKit kit sl Go.Proofs.Ytppnaofebkpbkaa.srt Go.Proofs.Ytppnaofebkpbkaa.hsort Go.Proofs.Ytppnaofebkpbkaa.pm
set_option linter.unusedVariables false
section
variable {P : Program} {n : Nat} {F : Frm} {H : List Ent} {o : Oper} {x y : Operand} {T : TypeId}
theorem q_shl_by {k' : IntKind} {i j r : Int} {m : Nat} {T' : TypeId} (ho : o.op = .binOp .shl T x y T') (hx : ev F x = some (.int .i64 i)) (hy : ev F y = some (.int k' j)) (hj : j = (m : Int)) (hm : m ≤ 62) (hr : IntKind.i64.wrap (i * 2 ^ m) = r) : Qt P n o F H (.int .i64 r) :=
  q_shl (hp := ⟨by rw [hj]; rfl, by omega, by omega⟩) ho hx hy (Nat.ble_eq_true_of_le (by simp [IntKind.bits]; omega)) hr
end
def boxK (b : Nat) : Ent := box b [.func (.func 22) #[] #[]] 48
instance {b : Nat} {L : List Ent} [hl : XL L] : XL (boxK b :: L) := ⟨fun g hg => by
  rcases List.mem_cons.1 hg with rfl | hg
  · rfl
  · exact hl.h g hg⟩
theorem view_box {S R : List Ent} {b : Nat} (p : Pick (boxK b) S R) : View S (KB b) := ⟨rfl, fun w hw => by
  have h := hw.1 _ p.mem
  exact h, fun k hk => ⟨_, p.mem, hk⟩⟩
theorem rowI_is (x : XC) : rowI x = own (slV x) 3 1 (sI x).length (flat fI (sI x)) := by
  unfold rowI sI
  rw [List.length_map]
theorem bundle_many {H R : List Ent} {tab : List XC} (p : Pick (bundle (tab.map rowI)) H R) : HSub H (many 1 (tab.map lotI) :: R) :=
  heap_less p (view_bundle (vv := slV) (xs := sI) (f := fI) (rw := rowI) (tab := tab) Pick.here rowI_is (fun _ => rfl) tab (fun r h => h))
theorem rowI_one (f : Int) (i : Nat) (q : Option Addr) : own (.slice q 1 1) 3 1 1 [.int .i64 (i : Int)] = rowI (f, [i], q, 1) := rfl
def LensR (F : List Int) (most : Int) (v : Value) (H' : List Ent) : Prop :=
  (lensE F most = 0 ∧ ∃ q c, v = .tuple #[.slice q F.length c, .int .i64 0] ∧ H' = [own (.slice q F.length c) 3 1 F.length (flat fI (lensL F most))]) ∨
  (lensE F most ≠ 0 ∧ v = .tuple #[.slice none 0 0, .int .i64 (lensE F most)] ∧ H' = [])
instance {F : List Int} {most : Int} : Xcl (LensR F most) := by unfold LensR; infer_instance
/-- what the first loop makes -/
def Sing (F : List Int) (i : Nat) (S : List XC) : Prop := S.map stp = single (wF F) (posF F i)
theorem sing_next_t {F : List Int} {i : Nat} {S : List XC} {f : Int} {q : Option Addr} (h : Sing F i S) (hf : F[i]? = some f) (h0 : 0 < f) : Sing F (i + 1) (S ++ [(f, [i], q, 1)]) := by
  have e : wF F i = f := by unfold wF; rw [List.getD_eq_getElem?_getD, hf]; rfl
  unfold Sing at h ⊢
  rw [pos_next_t (by omega), List.map_append, h]
  unfold single
  rw [List.map_append, ← e]
  rfl
theorem sing_next_f {F : List Int} {i : Nat} {S : List XC} {f : Int} (h : Sing F i S) (hf : F[i]? = some f) (h0 : ¬ 0 < f) : Sing F (i + 1) S := by
  have e : wF F i = f := by unfold wF; rw [List.getD_eq_getElem?_getD, hf]; rfl
  unfold Sing at h ⊢
  rw [pos_next_f (by omega), h]
theorem sing_len {F : List Int} {i : Nat} {S : List XC} (h : Sing F i S) : S.length = (posF F i).length := by
  have := congrArg List.length h
  rw [List.length_map, single_len] at this
  exact this
theorem sign_len {B : Nat} : ∀ {l : List Coin}, (∀ c ∈ l, c.2.length ≤ B) → (signs l).length ≤ B * l.length
  | [], _ => Nat.zero_le _
  | c :: l, h => by
    have h1 := h c List.mem_cons_self
    have h2 := sign_len (l := l) fun d hd => h d (List.mem_cons_of_mem _ hd)
    unfold signs at h2 ⊢
    rw [List.flatMap_cons, List.length_append, List.length_cons, Nat.mul_succ]
    omega
attribute [local irreducible] box own sl old bptr eptr Qt Opr Run Cod Pst Drn
set_option maxRecDepth 100000 in
set_option maxHeartbeats 8000000 in
theorem by_any : Ct Try.prog 21 [.func (.func 22) #[] #[]] [] fun v H' => ∃ b, v = cmpV b ∧ H' = [boxK b] := by
  unfold boxK cmpV
  (refine spec_enter Try.func21 Try.ntmps21 rfl rfl fun Fr => ?_; dsimp only [List.cons_append, List.nil_append, ini, Nat.reduceAdd])
  (repeat' (first | (apply run_qg 1; (focus rfl); (focus exact wt); (focus rfl); (focus (exact qg1))) | (apply run_qg 5; (focus rfl); (focus exact wt); (focus rfl); (focus (exact qg5))) | refine cod_seq ?_ | refine cod_region ?_ | refine run_nil ?_ | refine pst_then ?_ | refine cod_ret ?_ | (apply run_osg 8; (focus rfl); (focus exact wt); (focus rfl); (focus (exact opr_box_one rfl rfl rfl)); (rintro _ _ ⟨b, rfl, rfl⟩))))
  exact pst_fin rfl (by exact resa) _ (⟨_, rfl, rfl⟩) (by exact hsa)
set_option maxRecDepth 100000 in
set_option maxHeartbeats 8000000 in
theorem lens_bad (q : Option Addr) (c : Nat) (F : List Int) (most : Int) (hl : F.length ≤ 1000000000000000) (h : ¬ (chkE F = 0 ∧ 1 ≤ most ∧ most ≤ 15)) :
    Ct Try.prog 9 [.slice q F.length c, .int .i64 most] [sl 1 (.slice q F.length c) (F.map fI)] (LensR F most) := by
  have CK := check_any q c F hl
  by_cases hk : chkE F = 0
  · have e : lensE F most = 1 := by unfold lensE; rw [if_neg (by rw [hk]; simp), if_pos (by omega)]
    have R0 : LensR F most (.tuple #[.slice none 0 0, .int .i64 1]) [] := .inr ⟨by rw [e]; decide, by rw [e], rfl⟩
    rw [hk] at CK
    (refine spec_enter Try.func9 Try.ntmps9 rfl rfl fun Fr => ?_; dsimp only [List.cons_append, List.nil_append, ini, Nat.reduceAdd])
    (repeat' (first | (apply run_qg 1; (focus rfl); (focus exact wt); (focus rfl); (focus (exact qg1))) | (apply run_qg 4; (focus rfl); (focus exact wt); (focus rfl); (focus (first | exact qg4 | exact qs4))) | refine cod_seq ?_ | refine cod_region ?_ | refine run_nil ?_ | refine pst_then ?_ | (apply cod_cond_t; (focus rfl)) | (apply cod_cond_f; (focus rfl)) | refine cod_ret ?_ | refine cod_skip ?_ | refine pst_then_ret ?_ | (apply run_offs; (focus rfl); (focus rfl); (focus rfl)) | (apply run_osg 7; (focus rfl); (focus exact wt); (focus rfl); (focus (exact opr_call_ls (by rfl) (CK ..) (by rfl) lpa)); (rintro _ _ ⟨rfl, rfl⟩)) | ((first | (apply run_lss; (rotate_left 2); (focus rfl)) | (apply run_leq; (rotate_left 2); (focus rfl)) | (apply run_gtr; (rotate_left 2); (focus rfl)) | (apply run_geq; (rotate_left 2); (focus rfl)) | (apply run_eql; (rotate_left 2); (focus rfl)) | (apply run_neq; (rotate_left 2); (focus rfl)) | (apply run_seq; (rotate_left 2); (focus rfl)) | (apply run_sneq; (rotate_left 2); (focus rfl))); (focus rfl); (focus rfl); (rotate_right 2); (focus exact wt); (focus rfl); (all_goals (intro h; dsimp only [upd])))))
    all_goals first | (exfalso; omega) | exact pst_fin rfl (by exact resa) _ (R0) (by exact hsa)
  · have e : lensE F most = chkE F := by unfold lensE; rw [if_pos hk]
    have R0 : LensR F most (.tuple #[.slice none 0 0, .int .i64 (chkE F)]) [] := .inr ⟨by rw [e]; exact hk, by rw [e], rfl⟩
    generalize chkE F = ce at *
    (refine spec_enter Try.func9 Try.ntmps9 rfl rfl fun Fr => ?_; dsimp only [List.cons_append, List.nil_append, ini, Nat.reduceAdd])
    (repeat' (first | (apply run_qg 1; (focus rfl); (focus exact wt); (focus rfl); (focus (exact qg1))) | (apply run_qg 4; (focus rfl); (focus exact wt); (focus rfl); (focus (first | exact qg4 | exact qs4))) | refine cod_seq ?_ | refine cod_region ?_ | refine run_nil ?_ | refine pst_then ?_ | (apply cod_cond_t; (focus rfl)) | refine cod_ret ?_ | refine pst_then_ret ?_ | (apply run_osg 7; (focus rfl); (focus exact wt); (focus rfl); (focus (exact opr_call_ls (by rfl) (CK ..) (by rfl) lpa)); (rintro _ _ ⟨rfl, rfl⟩))))
    exact pst_fin rfl (by exact resa) _ (R0) (by exact hsa)
set_option maxRecDepth 100000 in
set_option maxHeartbeats 8000000 in
theorem lens_good (q : Option Addr) (c : Nat) (F : List Int) (m : Nat) (h : GoodF F) (hm : m ≤ 14) :
    Ct Try.prog 9 [.slice q F.length c, .int .i64 ((m + 1 : Nat) : Int)] [sl 1 (.slice q F.length c) (F.map fI)] (LensR F ((m + 1 : Nat) : Int)) := by
  have hl := h.1
  have CK := check_any q c F (by omega)
  rw [chk_zero.2 h] at CK
  have hone := one_fX
  have hpow : 2 ^ (m + 1) ≤ 32768 := Nat.le_trans (Nat.pow_le_pow_right (by decide) (by omega : m + 1 ≤ 15)) (by decide)
  have hp0 := Nat.two_pow_pos (m + 1)
  have hwr : IntKind.i64.wrap (1 * 2 ^ (m + 1)) = ((2 ^ (m + 1) : Nat) : Int) := by
    rw [Int.one_mul, show ((2 : Int) ^ (m + 1)) = ((2 ^ (m + 1) : Nat) : Int) by simp]
    exact wr_i64 (by omega)
  have hmm : ((m + 1 : Nat) : Int).toNat = m + 1 := by omega
  obtain ⟨w, hw⟩ : ∃ w, 2 ^ (m + 1) = w := ⟨_, rfl⟩
  rw [hw] at hpow hp0 hwr
  have hpl := pos_len F F.length
  have R6 : w < (posF F F.length).length → LensR F ((m + 1 : Nat) : Int) (.tuple #[.slice none 0 0, .int .i64 6]) [] := fun g => by
    have e : lensE F ((m + 1 : Nat) : Int) = 6 := by
      unfold lensE
      rw [if_neg (by rw [chk_zero.2 h]; simp), if_neg (by omega), hmm, if_pos (by rw [hw]; exact g)]
    exact .inr ⟨by rw [e]; decide, by rw [e], rfl⟩
  have R0 : ¬ w < (posF F F.length).length → ∀ q c, LensR F ((m + 1 : Nat) : Int) (.tuple #[.slice q F.length c, .int .i64 0]) [own (.slice q F.length c) 3 1 F.length (flat fI (lensL F ((m + 1 : Nat) : Int)))] := fun g q c => by
    have e : lensE F ((m + 1 : Nat) : Int) = 0 := by
      unfold lensE
      rw [if_neg (by rw [chk_zero.2 h]; simp), if_neg (by omega), hmm, if_neg (by rw [hw]; exact g)]
    exact .inl ⟨e, q, c, rfl, rfl⟩
  (refine spec_enter Try.func9 Try.ntmps9 rfl rfl fun Fr => ?_; dsimp only [List.cons_append, List.nil_append, ini, Nat.reduceAdd])
  (repeat' (first | (apply run_qg 1; (focus rfl); (focus exact wt); (focus rfl); (focus (exact qg1))) | (apply run_qg 4; (focus rfl); (focus exact wt); (focus rfl); (focus (first | exact qg4 | exact qs4))) | (apply run_qg 6; (focus rfl); (focus exact wt); (focus rfl); (focus (first | exact qs6 | exact qg6 | exact q_max rfl rfl rfl | exact q_sliceData rfl rfl (by omega) | exact q_sliceDataN rfl rfl | exact q_unsafeStringN rfl rfl rfl | exact q_cap_slice rfl rfl))) | refine cod_seq ?_ | refine cod_region ?_ | refine run_nil ?_ | refine pst_then ?_ | (apply cod_cond_f; (focus rfl)) | refine cod_block ?_ | refine cod_skip ?_ | (apply run_osg 7; (focus rfl); (focus exact wt); (focus rfl); (focus (exact opr_call_ls (by rfl) (CK ..) (by rfl) lpa)); (rintro _ _ ⟨rfl, rfl⟩))))
  refine cod_heap (heap_nil _ 44 2) ?_
  refine cod_heap (bundle_nil _) ?_
  (refine cod_loop_rw (σ := Nat × List XC × Option Addr × Nat) (fun s => s.1 ≤ F.length ∧ Sing F s.1 s.2.1) (fun s => [(29, .int .i64 (s.1 : Int)), (7, .slice s.2.2.1 s.2.1.length s.2.2.2)]) (fun s => [own (.slice s.2.2.1 s.2.1.length s.2.2.2) 44 2 s.2.1.length (flat fX s.2.1), bundle (s.2.1.reverse.map rowI)]) _ (fun s => F.length - s.1) ((0, [], none, 0)) (by exact ⟨Nat.zero_le _, rfl⟩) (by exact fsa) (by (first | exact HSub.of_picks_rest (by exact pca))) (fun ⟨i, S, q1, c1⟩ ⟨hi, hS⟩ => ?_); dsimp only [List.cons_append, List.nil_append])
  dsimp only at hi hS
  have hSl := sing_len hS
  have hpi := pos_len F i
  rcases get_or F i with ⟨f, hf, hlt⟩ | hge
  · have hgf := h.2 f (List.mem_of_getElem? hf)
    by_cases h0 : 0 < f
    · have hN := fun q => sing_next_t (q := q) hS hf h0
      clear R6 R0
      (repeat' (first | (apply run_qg 1; (focus rfl); (focus exact wt); (focus rfl); (focus (exact qg1))) | (apply run_qg 2; (focus rfl); (focus exact wt); (focus rfl); (focus (first | exact qg2 | exact qs2))) | (apply run_qg 3; (focus rfl); (focus exact wt); (focus rfl); (focus (first | exact qg3 | exact qs3))) | (apply run_qg 4; (focus rfl); (focus exact wt); (focus rfl); (focus (first | exact qg4 | exact qs4))) | (apply run_qg 5; (focus rfl); (focus exact wt); (focus rfl); (focus (exact qg5))) | refine cod_seq ?_ | refine cod_region ?_ | refine run_nil ?_ | refine pst_then ?_ | (apply cod_cond_t; (focus rfl)) | refine cod_block ?_ | refine cod_skip ?_ | (apply run_osg 10; (focus rfl); (focus exact wt); (focus rfl); (focus (exact opr_buildSlice rfl rfl rfl (by exact blda) rfl rfl (by decide) rfl)); (rintro _ _ ⟨q, rfl, rfl⟩))))
      refine run_os wt rfl (by first | exact opr_append_lit0 (fX) [((f, [i], _, 1) : XC)] rfl rfl rfl (by exact pka) (by rfl) (by rfl) (by intro _; rfl) (by (first | exact one_fS | exact one_fI | exact one_fB | exact one_fP | exact one_fIIS | exact one_fIIIS | exact one_fII | exact one_fSI | exact one_fIIU | exact one_fY | exact one_fBl | exact one_fT | exact one_fE | assumption)) rfl (by simp only [List.length_cons, List.length_nil]; omega) (by (unfold maxLen); simp only [List.length_cons, List.length_nil]; omega) | exact opr_append_lit (fX) [((f, [i], _, 1) : XC)] rfl rfl rfl (by exact pka) (by exact pka) (by rfl) (by rfl) (by first | rfl | omega) (by intro _; rfl) (by (first | exact one_fS | exact one_fI | exact one_fB | exact one_fP | exact one_fIIS | exact one_fIIIS | exact one_fII | exact one_fSI | exact one_fIIU | exact one_fY | exact one_fBl | exact one_fT | exact one_fE | assumption)) rfl (by simp only [List.length_cons, List.length_nil]; omega) (by (unfold maxLen); simp only [List.length_cons, List.length_nil]; omega)) ?_
      rintro _ _ ⟨q5, c5, rfl, rfl⟩
      rename_i qi
      refine run_heap (bundle_in (e := rowI (f, [i], qi, 1)) pka pka (rowI_x _)) ?_
      rw [show rowI (f, [i], qi, 1) :: S.reverse.map rowI = ((S ++ [((f, [i], qi, 1) : XC)]).reverse).map rowI by rw [List.reverse_append]; rfl]
      (repeat' (first | (apply run_qg 1; (focus rfl); (focus exact wt); (focus rfl); (focus (exact qg1))) | (apply run_qg 4; (focus rfl); (focus exact wt); (focus rfl); (focus (first | exact qg4 | exact qs4))) | refine cod_region ?_ | refine run_nil ?_ | refine pst_then ?_ | refine pst_block ?_))
      refine pst_again ((i + 1, S ++ [(f, [i], qi, 1)], q5, c5)) ?_ (FSub.of (by (try dsimp only); exact fsa)) (by (try dsimp only); exact hsa) ?_
      · exact ⟨hlt, hN qi⟩
      · dsimp only; omega
    · have hN := sing_next_f hS hf h0
      clear R6 R0
      (repeat' (first | (apply run_qg 1; (focus rfl); (focus exact wt); (focus rfl); (focus (exact qg1))) | (apply run_qg 2; (focus rfl); (focus exact wt); (focus rfl); (focus (first | exact qg2 | exact qs2))) | (apply run_qg 3; (focus rfl); (focus exact wt); (focus rfl); (focus (first | exact qg3 | exact qs3))) | (apply run_qg 4; (focus rfl); (focus exact wt); (focus rfl); (focus (first | exact qg4 | exact qs4))) | refine cod_seq ?_ | refine cod_region ?_ | refine run_nil ?_ | refine pst_then ?_ | (apply cod_cond_t; (focus rfl)) | (apply cod_cond_f; (focus rfl)) | refine cod_block ?_ | refine cod_skip ?_ | refine pst_block ?_))
      refine pst_again ((i + 1, S, q1, c1)) ?_ (FSub.of (by (try dsimp only); exact fsa)) (by (try dsimp only); exact hsa) ?_
      · exact ⟨hlt, hN⟩
      · dsimp only; omega
  · have hil : i = F.length := by omega
    subst hil
    (repeat' (first | (apply run_qg 1; (focus rfl); (focus exact wt); (focus rfl); (focus (exact qg1))) | (apply run_qg 4; (focus rfl); (focus exact wt); (focus rfl); (focus (first | exact qg4 | exact qs4))) | (apply run_qg 6; (focus rfl); (focus exact wt); (focus rfl); (focus (first | exact qs6 | exact qg6 | exact q_max rfl rfl rfl | exact q_sliceData rfl rfl (by omega) | exact q_sliceDataN rfl rfl | exact q_unsafeStringN rfl rfl rfl | exact q_cap_slice rfl rfl))) | refine cod_seq ?_ | refine cod_region ?_ | refine run_nil ?_ | refine pst_then ?_ | (apply cod_cond_f; (focus rfl)) | refine cod_exit ?_ | refine pst_block_here ?_ | refine pst_then_exit ?_))
    refine run_qs wt rfl (q_shl_by rfl rfl rfl rfl (by omega) hwr) ?_
    by_cases hover : w < (posF F F.length).length
    · have R1 := R6 hover
      clear R6 R0
      (repeat' (first | (apply run_qg 1; (focus rfl); (focus exact wt); (focus rfl); (focus (exact qg1))) | (apply run_qg 4; (focus rfl); (focus exact wt); (focus rfl); (focus (first | exact qg4 | exact qs4))) | refine cod_seq ?_ | refine cod_region ?_ | refine run_nil ?_ | refine pst_then ?_ | (apply cod_cond_t; (focus rfl)) | refine cod_ret ?_ | refine pst_then_ret ?_))
      exact pst_fin rfl (by exact resa) _ (R1) (by exact hsa)
    · have R1 := R0 hover
      clear R6 R0
      have hover2 : (posF F F.length).length ≤ w := by omega
      (repeat' (first | (apply run_qg 1; (focus rfl); (focus exact wt); (focus rfl); (focus (exact qg1))) | (apply run_qg 4; (focus rfl); (focus exact wt); (focus rfl); (focus (first | exact qg4 | exact qs4))) | (apply run_qg 6; (focus rfl); (focus exact wt); (focus rfl); (focus (first | exact qs6 | exact qg6 | exact q_max rfl rfl rfl | exact q_sliceData rfl rfl (by omega) | exact q_sliceDataN rfl rfl | exact q_unsafeStringN rfl rfl rfl | exact q_cap_slice rfl rfl))) | refine cod_seq ?_ | refine cod_region ?_ | refine run_nil ?_ | refine pst_then ?_ | (apply cod_cond_f; (focus rfl)) | refine cod_skip ?_))
      refine run_os wt rfl (opr_make (fI) (0) (c := F.length) rfl rfl rfl (by first | rfl | omega) (by first | rfl | omega) rfl rfl (by omega) (by (unfold maxLen); omega)) ?_
      rintro _ _ ⟨qo, rfl, rfl⟩
      refine run_heap (bundle_many pka) ?_
      rcases Nat.lt_or_ge S.length 2 with h2 | h2
      · have hidl : (idxF F).length = S.length := by rw [(idx_perm F).length_eq, hSl]
        have eL : lensL F ((m + 1 : Nat) : Int) = cntL F.length (posF F F.length) := by unfold lensL; rw [if_pos (by omega)]
        rw [eL] at R1
        by_cases h1 : S.length = 1
        · obtain ⟨x, hSx⟩ : ∃ x, S = [x] := List.length_eq_one_iff.1 h1
          obtain ⟨j, hpj⟩ : ∃ j, posF F F.length = [j] := List.length_eq_one_iff.1 (by rw [← hSl, h1])
          have hxs : stp x = (wF F j, [j]) := by
            unfold Sing at hS
            rw [hSx, hpj] at hS
            unfold single at hS
            simp only [List.map_cons, List.map_nil, List.cons.injEq, and_true] at hS
            exact hS
          have hjN : j < F.length := (pos_mem.1 (by rw [hpj]; exact List.mem_singleton.2 rfl : j ∈ posF F F.length)).1
          obtain ⟨f, sg, qx, cx⟩ := x
          have hsg : sg = [j] := congrArg (fun y : Coin => y.2) hxs
          subst hsg
          rw [hpj, ← List.nil_append [j], ← cnt_set [] hjN, cnt_nil] at R1
          have hz : (List.replicate F.length (0 : Int))[j]? = some 0 := by rw [List.getElem?_replicate, if_pos hjN]
          have hset : (List.replicate F.length (0 : Int)).set j (((List.count j [] : Nat) : Int) + 1) = (List.replicate F.length (0 : Int)).set j 1 := rfl
          rw [hset] at R1
          have h00 : ([(j : Int)] : List Int)[0]? = some (j : Int) := rfl
          have hx0 : S[0]? = some (f, [j], qx, cx) := by rw [hSx]; rfl
          have hlot : (Value.slice qx 1 cx, ([(j : Int)] : List Int).map fI) ∈ (S.reverse).map lotI := by rw [hSx]; simp [lotI, slV, sI]
          refine run_heap (many_out pka hlot) ?_
          clear hS hSl eL hxs hset hlot hSx
          (repeat' (first | (apply run_qg 1; (focus rfl); (focus exact wt); (focus rfl); (focus (exact qg1))) | (apply run_qg 4; (focus rfl); (focus exact wt); (focus rfl); (focus (first | exact qg4 | exact qs4))) | (apply run_qg 6; (focus rfl); (focus exact wt); (focus rfl); (focus (first | exact qs6 | exact qg6 | exact q_max rfl rfl rfl | exact q_sliceData rfl rfl (by omega) | exact q_sliceDataN rfl rfl | exact q_unsafeStringN rfl rfl rfl | exact q_cap_slice rfl rfl))) | refine cod_seq ?_ | refine cod_region ?_ | refine run_nil ?_ | refine pst_then ?_ | (apply cod_cond_t; (focus rfl))))
          refine run_qs wt rfl (q_index_own (i := 0) rfl rfl rfl pka rfl (by omega)) ?_
          (repeat' (first | (apply run_qg 2; (focus rfl); (focus exact wt); (focus rfl); (focus (first | exact qg2 | exact qs2))) | (apply run_qg 3; (focus rfl); (focus exact wt); (focus rfl); (focus (first | exact qg3 | exact qs3)))))
          refine run_qs wt rfl (q_index_sl (i := 0) (v := .slice qx 1 cx) rfl rfl rfl pka rfl (by simp)) ?_
          (repeat' (first | (apply run_qg 2; (focus rfl); (focus exact wt); (focus rfl); (focus (first | exact qg2 | exact qs2))) | (apply run_qg 3; (focus rfl); (focus exact wt); (focus rfl); (focus (first | exact qg3 | exact qs3)))))
          (refine run_on wt (opr_store_ownm (f := fI) (q' := 1) rfl rfl rfl rfl (by exact pka) rfl (by omega) (by intro _; rfl) (by assumption) rfl rfl (by rfl)) ?_; rintro _ _ ⟨rfl, rfl⟩)
          (repeat' (first | (apply run_qg 1; (focus rfl); (focus exact wt); (focus rfl); (focus (exact qg1))) | (apply run_qg 4; (focus rfl); (focus exact wt); (focus rfl); (focus (first | exact qg4 | exact qs4))) | (apply run_qg 6; (focus rfl); (focus exact wt); (focus rfl); (focus (first | exact qs6 | exact qg6 | exact q_max rfl rfl rfl | exact q_sliceData rfl rfl (by omega) | exact q_sliceDataN rfl rfl | exact q_unsafeStringN rfl rfl rfl | exact q_cap_slice rfl rfl))) | refine cod_seq ?_ | refine cod_region ?_ | refine run_nil ?_ | refine pst_then ?_ | (apply cod_cond_t; (focus rfl)) | refine cod_ret ?_ | refine pst_then_ret ?_))
          exact pst_fin rfl (by exact resa) _ (R1 _ _) (by exact hsa)
        · have hS0 : S.length = 0 := by omega
          have hp0 : posF F F.length = [] := List.eq_nil_of_length_eq_zero (by omega)
          rw [hp0, cnt_nil] at R1
          clear hS hSl eL
          (repeat' (first | (apply run_qg 1; (focus rfl); (focus exact wt); (focus rfl); (focus (exact qg1))) | (apply run_qg 4; (focus rfl); (focus exact wt); (focus rfl); (focus (first | exact qg4 | exact qs4))) | (apply run_qg 6; (focus rfl); (focus exact wt); (focus rfl); (focus (first | exact qs6 | exact qg6 | exact q_max rfl rfl rfl | exact q_sliceData rfl rfl (by omega) | exact q_sliceDataN rfl rfl | exact q_unsafeStringN rfl rfl rfl | exact q_cap_slice rfl rfl))) | refine cod_seq ?_ | refine cod_region ?_ | refine run_nil ?_ | refine pst_then ?_ | (apply cod_cond_t; (focus rfl)) | (apply cod_cond_f; (focus rfl)) | refine cod_ret ?_ | refine cod_skip ?_ | refine pst_then_ret ?_))
          exact pst_fin rfl (by exact resa) _ (R1 _ _) (by exact hsa)
      · have hidl : (idxF F).length = S.length := by rw [(idx_perm F).length_eq, hSl]
        have eL : lensL F ((m + 1 : Nat) : Int) = cntL F.length (signs ((lists (single (wF F) (idxF F)) m).take (2 * S.length - 2))) := by unfold lensL; rw [if_neg (by omega), hidl]; rfl
        rw [eL] at R1
        have hT : (sortW S).map stp = single (wF F) (idxF F) := by rw [sort_stp, hS, single_idx]
        have hTl : (sortW S).length = S.length := sortW_len S
        have hTm : ∀ x ∈ sortW S, x ∈ S.reverse := fun x hx => List.mem_reverse.2 (sortW_mem.1 hx)
        have hfine := fine_single h
        have hSb : ∀ x ∈ S.map cvOf, 0 ≤ x.1 ∧ x.1 ≤ 1000000000000 := fun x hx => by
          obtain ⟨y, hy, rfl⟩ := List.mem_map.1 hx
          have h3 : stp y ∈ single (wF F) (idxF F) := by rw [← hT]; exact List.mem_map_of_mem (sortW_mem.2 hy)
          have h4 := (hfine _ h3).2
          have h5 : 0 ≤ y.1 ∧ y.1 ≤ 1048576 * ((2 ^ 0 : Nat) : Int) := h4
          show 0 ≤ y.1 ∧ y.1 ≤ 1000000000000
          omega
        have SRT := fun kb => sort_any q1 c1 kb (S.map cvOf) S.length (by rw [List.length_map]) (by omega) (by omega) hSb
        rw [← sort_map, flat_fX, flat_fX] at SRT
        clear hS eL hSb
        generalize sortW S = T at *
        (repeat' (first | (apply run_qg 1; (focus rfl); (focus exact wt); (focus rfl); (focus (exact qg1))) | (apply run_qg 4; (focus rfl); (focus exact wt); (focus rfl); (focus (first | exact qg4 | exact qs4))) | (apply run_qg 6; (focus rfl); (focus exact wt); (focus rfl); (focus (first | exact qs6 | exact qg6 | exact q_max rfl rfl rfl | exact q_sliceData rfl rfl (by omega) | exact q_sliceDataN rfl rfl | exact q_unsafeStringN rfl rfl rfl | exact q_cap_slice rfl rfl))) | refine cod_seq ?_ | refine cod_region ?_ | refine run_nil ?_ | refine pst_then ?_ | (apply cod_cond_f; (focus rfl)) | refine cod_skip ?_))
        (refine run_os wt rfl (opr_call_l rfl (by_any) rfl (by exact lpa)) ?_; rintro _ _ ⟨_, ⟨kb, rfl, rfl⟩, rfl⟩; dsimp only [List.cons_append, List.nil_append])
        refine run_os wt rfl (opr_call_l rfl (SRT kb) rfl (Lp.out pka (Lp.view (KB_x kb) Lp.nil (view_box pka)))) ?_
        rintro _ _ ⟨_, ⟨rfl, rfl⟩, rfl⟩
        dsimp only [List.cons_append, List.nil_append]
        rw [← hTl] at R1 h2
        rw [← hTl]
        have hn320 : T.length ≤ 320 := by omega
        have hTw : T.length ≤ w := by omega
        have hm1 : ((m + 1 : Nat) : Int) - 1 = (m : Int) := by omega
        refine run_heap (heap_sl (f := fX) (ys := T) pka (fun _ => rfl) rfl) ?_
        clear SRT hSl hover
        have hTS : ∀ x ∈ T, x ∈ S.reverse := hTm
        generalize S.reverse = tab0 at *
        (repeat' (first | (apply run_qg 1; (focus rfl); (focus exact wt); (focus rfl); (focus (exact qg1))) | (apply run_qg 4; (focus rfl); (focus exact wt); (focus rfl); (focus (first | exact qg4 | exact qs4))) | refine cod_seq ?_ | refine cod_region ?_ | refine run_nil ?_ | refine pst_then ?_ | refine cod_block ?_))
        rw [hm1]
        (refine cod_loop_rw (σ := Nat × List XC × Option Addr × Nat × List XC) (fun s => (s.1 ≤ m ∧ s.2.1.map stp = lists (single (wF F) (idxF F)) s.1) ∧ ((∀ x ∈ s.2.1, x ∈ s.2.2.2.2) ∧ ∀ x ∈ T, x ∈ s.2.2.2.2)) (fun s => [(73, .int .i64 (s.1 : Int)), (11, .slice s.2.2.1 s.2.1.length s.2.2.2.1)]) (fun s => [sl 2 (.slice s.2.2.1 s.2.1.length s.2.2.2.1) (s.2.1.map fX), many 1 (s.2.2.2.2.map lotI)]) _ (fun s => m - s.1) ((0, T, q1, c1, tab0)) (by exact ⟨⟨Nat.zero_le _, hT⟩, hTS, hTS⟩) (by exact fsa) (by (first | exact HSub.of_picks_rest (by exact pca))) (fun ⟨k, L, qL, cL, tab⟩ ⟨⟨hk, hL⟩, hLt, hTt⟩ => ?_); dsimp only [List.cons_append, List.nil_append])
        dsimp only at hk hL hLt hTt
        have hLl : L.length ≤ 640 := by
          have h3 := lists_short (single (wF F) (idxF F)) k
          rw [← hL, ← hT, List.length_map, List.length_map] at h3
          omega
        have hpk : 2 ^ k ≤ 16384 := Nat.le_trans (Nat.pow_le_pow_right (by decide) (by omega : k ≤ 14)) (by decide)
        have hLf : ∀ x ∈ L, Fine F.length k (stp x) := fun x hx => fine_lists hfine k _ (by rw [← hL]; exact List.mem_map_of_mem hx)
        have hL1 : ∀ x ∈ L, 0 ≤ x.1 ∧ x.1 ≤ 1000000000000 := fun x hx => by
          have h3 : 0 ≤ x.1 ∧ x.1 ≤ 1048576 * ((2 ^ k : Nat) : Int) := (hLf x hx).2
          omega
        have hL2 : ∀ x ∈ L, x.2.1.length ≤ 16384 := fun x hx => by
          have h3 : x.2.1.length ≤ 2 ^ k := (hLf x hx).1.1
          omega
        rcases Nat.lt_or_ge k m with hlt | hge
        · have PR := pairs_any qL cL L tab (by omega) hLt hL1 fun x hx => by have := hL2 x hx; omega
          clear R1
          (repeat' (first | (apply run_qg 1; (focus rfl); (focus exact wt); (focus rfl); (focus (exact qg1))) | (apply run_qg 4; (focus rfl); (focus exact wt); (focus rfl); (focus (first | exact qg4 | exact qs4))) | refine cod_seq ?_ | refine cod_region ?_ | refine run_nil ?_ | refine pst_then ?_ | (apply cod_cond_t; (focus rfl)) | refine cod_block ?_ | refine cod_skip ?_))
          refine run_os wt rfl (opr_call_l rfl PR rfl (Lp.view (sl_excl _ _ _) (Lp.view rfl Lp.nil (View.same pka rfl)) (View.same pka (sl_excl _ _ _)))) ?_
          rintro _ _ ⟨_, ⟨ys, qy, cy, hys, rfl, rfl⟩, rfl⟩
          dsimp only [List.cons_append, List.nil_append]
          have hyl : ys.length ≤ 320 := by
            have h3 := congrArg List.length hys
            rw [List.length_map, pairs_len, List.length_map] at h3
            omega
          have MG := merged_any q1 qy c1 cy T ys (by omega) (by omega)
          have hN : (mrg T ys).map stp = lists (single (wF F) (idxF F)) (k + 1) := by rw [mrg_stp, hys, hT, hL]; rfl
          skip
          refine run_os wt rfl (opr_call_l rfl MG rfl lpa) ?_
          rintro _ _ ⟨_, ⟨qn, cn, rfl, rfl⟩, rfl⟩
          dsimp only [List.cons_append, List.nil_append]
          refine run_heap (heap_sl (f := fX) (ys := mrg T ys) pka (fun _ => rfl) rfl) ?_
          refine run_heap (bundle_many (tab := ys.reverse) pka) ?_
          refine run_heap (many_app pka pka) ?_
          rw [← List.map_append]
          (repeat' (first | (apply run_qg 1; (focus rfl); (focus exact wt); (focus rfl); (focus (exact qg1))) | (apply run_qg 4; (focus rfl); (focus exact wt); (focus rfl); (focus (first | exact qg4 | exact qs4))) | refine cod_region ?_ | refine run_nil ?_ | refine pst_then ?_ | refine pst_block ?_))
          refine pst_again ((k + 1, mrg T ys, qn, cn, ys.reverse ++ tab)) ?_ (FSub.of (by (try dsimp only); exact fsa)) (by (try dsimp only); exact hsa) ?_
          · refine ⟨⟨hlt, hN⟩, fun x hx => ?_, fun x hx => List.mem_append_right _ (hTt x hx)⟩
            rcases mrg_mem.1 hx with hx | hx
            · exact List.mem_append_right _ (hTt x hx)
            · exact List.mem_append_left _ (List.mem_reverse.2 hx)
          · dsimp only; omega
        · have hkm : k = m := by omega
          subst hkm
          have hen := lists_enough (s := single (wF F) (idxF F)) (L := k) (by rw [← hT, List.length_map, hw]; omega)
          rw [← hL, List.length_map, ← hT, List.length_map] at hen
          have hcast : 2 * (T.length : Int) - 2 = ((2 * T.length - 2 : Nat) : Int) := by omega
          rw [← hL] at R1
          clear hL hT hfine
          (repeat' (first | (apply run_qg 1; (focus rfl); (focus exact wt); (focus rfl); (focus (exact qg1))) | (apply run_qg 4; (focus rfl); (focus exact wt); (focus rfl); (focus (first | exact qg4 | exact qs4))) | (apply run_qg 6; (focus rfl); (focus exact wt); (focus rfl); (focus (first | exact qs6 | exact qg6 | exact q_max rfl rfl rfl | exact q_sliceData rfl rfl (by omega) | exact q_sliceDataN rfl rfl | exact q_unsafeStringN rfl rfl rfl | exact q_cap_slice rfl rfl))) | refine cod_seq ?_ | refine cod_region ?_ | refine run_nil ?_ | refine pst_then ?_ | (apply cod_cond_f; (focus rfl)) | refine cod_exit ?_ | refine pst_block_here ?_ | refine pst_then_exit ?_))
          rw [hcast]
          refine run_qs wt rfl (q_slice_h rfl rfl rfl pka rfl hen) ?_
          refine run_heap (heap_less pka (View.part (m := 2 * T.length - 2) (xs := L) Pick.here hen)) ?_
          have hMl : (L.take (2 * T.length - 2)).length = 2 * T.length - 2 := by rw [List.length_take]; omega
          have hMm : ∀ x ∈ L.take (2 * T.length - 2), x ∈ L := fun x hx => List.mem_of_mem_take hx
          rw [← List.map_take] at R1
          have hSg : ∀ k', (signs (((L.take (2 * T.length - 2)).take k').map stp)).length ≤ 16384 * 640 := fun k' => by
            refine Nat.le_trans (sign_len (B := 16384) fun c hc => ?_) ?_
            · obtain ⟨x, hx, rfl⟩ := List.mem_map.1 hc
              exact hL2 x (hMm x (List.mem_of_mem_take hx))
            · rw [List.length_map, List.length_take, hMl]
              exact Nat.mul_le_mul (Nat.le_refl _) (by omega)
          generalize 2 * T.length - 2 = M2 at *
          generalize L.take M2 = M at *
          rw [← cnt_nil]
          (repeat' (first | (apply run_qg 1; (focus rfl); (focus exact wt); (focus rfl); (focus (exact qg1))) | (apply run_qg 6; (focus rfl); (focus exact wt); (focus rfl); (focus (first | exact qs6 | exact qg6 | exact q_max rfl rfl rfl | exact q_sliceData rfl rfl (by omega) | exact q_sliceDataN rfl rfl | exact q_unsafeStringN rfl rfl rfl | exact q_cap_slice rfl rfl))) | refine run_nil ?_ | refine pst_then ?_ | refine cod_block ?_))
          (refine cod_loop_rw (σ := Nat) (fun k => k ≤ M2) (fun k => [(87, .int .i64 (k : Int))]) (fun k => [own (.slice qo F.length F.length) 3 1 F.length (flat fI (cntL F.length (signs ((M.take k).map stp))))]) _ (fun k => M2 - k) (0) (by exact Nat.zero_le _) (by exact fsa) (by (first | exact HSub.of_picks_rest (by exact pca))) (fun j hj => ?_); dsimp only [List.cons_append, List.nil_append])
          rcases Nat.lt_or_ge j M2 with hjl | hjg
          · obtain ⟨x, hxj⟩ : ∃ x, M[j]? = some x := ⟨_, List.getElem?_eq_getElem (by omega)⟩
            have hxL := hMm x (List.mem_of_getElem? hxj)
            have hsN := (hLf x hxL).1.2
            have hx2 := hL2 x hxL
            have hSj := hSg j
            have hnext : signs ((M.take (j + 1)).map stp) = signs ((M.take j).map stp) ++ x.2.1 := by
              rw [List.take_add_one, hxj, List.map_append]
              unfold signs
              rw [List.flatMap_append]
              simp [stp]
            have hsl : (sI x).length = x.2.1.length := by unfold sI; rw [List.length_map]
            generalize hSS : signs ((M.take j).map stp) = SS at *
            refine cod_heap (many_out pka (lot_mem (hLt x hxL))) ?_
            clear R1 hSg
            (repeat' (first | (apply run_qg 1; (focus rfl); (focus exact wt); (focus rfl); (focus (exact qg1))) | (apply run_qg 2; (focus rfl); (focus exact wt); (focus rfl); (focus (first | exact qg2 | exact qs2))) | (apply run_qg 3; (focus rfl); (focus exact wt); (focus rfl); (focus (first | exact qg3 | exact qs3))) | (apply run_qg 4; (focus rfl); (focus exact wt); (focus rfl); (focus (first | exact qg4 | exact qs4))) | (apply run_qg 6; (focus rfl); (focus exact wt); (focus rfl); (focus (first | exact qs6 | exact qg6 | exact q_max rfl rfl rfl | exact q_sliceData rfl rfl (by omega) | exact q_sliceDataN rfl rfl | exact q_unsafeStringN rfl rfl rfl | exact q_cap_slice rfl rfl))) | refine cod_seq ?_ | refine cod_region ?_ | refine run_nil ?_ | refine pst_then ?_ | (apply cod_cond_t; (focus rfl)) | refine cod_block ?_ | refine cod_skip ?_ | (apply run_osg 8; (focus rfl); (focus exact wt); (focus rfl); (focus (exact opr_new rfl)); (rintro _ _ ⟨b, rfl, rfl⟩)) | (apply run_ong 9; (focus rfl); (focus exact wt); (focus (exact opr_store_box_agg rfl rfl rfl (by exact pka) rfl rfl rfl (by exact spla))); (rintro _ _ ⟨rfl, rfl⟩))))
            rw [show SS = SS ++ x.2.1.take 0 by rw [List.take_zero, List.append_nil]]
            (refine cod_loop_rw (σ := Nat) (fun k => k ≤ x.2.1.length) (fun k => [(94, .int .i64 (k : Int))]) (fun k => [own (.slice qo F.length F.length) 3 1 F.length (flat fI (cntL F.length (SS ++ x.2.1.take k)))]) _ (fun k => x.2.1.length - k) (0) (by exact Nat.zero_le _) (by exact fsa) (by (first | exact HSub.of_picks_rest (by exact pca))) (fun u hu => ?_); dsimp only [List.cons_append, List.nil_append])
            rcases Nat.lt_or_ge u x.2.1.length with hul | hug
            · obtain ⟨z, hz⟩ : ∃ z, x.2.1[u]? = some z := ⟨_, List.getElem?_eq_getElem hul⟩
              have hzI : (sI x)[u]? = some (z : Int) := by unfold sI; rw [List.getElem?_map, hz]; rfl
              have hzN : z < F.length := hsN z (List.mem_of_getElem? hz)
              have hca := cnt_at (N := F.length) (SS ++ x.2.1.take u) hzN
              have hcs := cnt_set (N := F.length) (SS ++ x.2.1.take u) hzN
              have hcb : List.count z (SS ++ x.2.1.take u) ≤ 100000000 := by
                refine Nat.le_trans List.count_le_length ?_
                rw [List.length_append, List.length_take]
                omega
              have hnx : SS ++ x.2.1.take (u + 1) = SS ++ x.2.1.take u ++ [z] := by rw [List.take_add_one, hz, List.append_assoc]; rfl
              rw [← hnx] at hcs
              generalize List.count z (SS ++ x.2.1.take u) = cz at *
              generalize cntL F.length (SS ++ x.2.1.take u) = CU at *
              clear hnext hnx
              (repeat' (first | (apply run_qg 1; (focus rfl); (focus exact wt); (focus rfl); (focus (exact qg1))) | (apply run_qg 2; (focus rfl); (focus exact wt); (focus rfl); (focus (first | exact qg2 | exact qs2))) | (apply run_qg 3; (focus rfl); (focus exact wt); (focus rfl); (focus (first | exact qg3 | exact qs3))) | (apply run_qg 4; (focus rfl); (focus exact wt); (focus rfl); (focus (first | exact qg4 | exact qs4))) | refine cod_seq ?_ | refine cod_region ?_ | refine run_nil ?_ | refine pst_then ?_ | (apply cod_cond_t; (focus rfl)) | refine cod_block ?_ | refine cod_skip ?_))
              (refine run_on wt (opr_store_ownm (f := fI) (q' := (((cz : Nat) : Int) + 1)) rfl rfl rfl rfl (by exact pka) rfl (by omega) (by intro _; rfl) (by assumption) rfl rfl (by rfl)) ?_; rintro _ _ ⟨rfl, rfl⟩)
              rw [hcs]
              (repeat' (first | (apply run_qg 1; (focus rfl); (focus exact wt); (focus rfl); (focus (exact qg1))) | (apply run_qg 4; (focus rfl); (focus exact wt); (focus rfl); (focus (first | exact qg4 | exact qs4))) | refine cod_region ?_ | refine run_nil ?_ | refine pst_then ?_ | refine pst_block ?_))
              refine pst_again (u + 1) ?_ (FSub.of (by (try dsimp only); exact fsa)) (by (try dsimp only); exact hsa) ?_
              · exact hul
              · omega
            · have hul : u = x.2.1.length := by omega
              subst hul
              rw [List.take_length, ← hnext]
              (repeat' (first | (apply run_qg 1; (focus rfl); (focus exact wt); (focus rfl); (focus (exact qg1))) | (apply run_qg 4; (focus rfl); (focus exact wt); (focus rfl); (focus (first | exact qg4 | exact qs4))) | refine cod_seq ?_ | refine cod_region ?_ | refine run_nil ?_ | refine pst_then ?_ | (apply cod_cond_f; (focus rfl)) | refine cod_exit ?_ | refine pst_block_here ?_ | refine pst_then_exit ?_ | refine pst_block ?_))
              refine pst_again (j + 1) ?_ (FSub.of (by (try dsimp only); exact fsa)) (by (try dsimp only); exact hsa) ?_
              · exact hjl
              · omega
          · have hjM : j = M2 := by omega
            subst hjM
            rw [List.take_of_length_le (by omega)]
            clear hSg
            (repeat' (first | (apply run_qg 1; (focus rfl); (focus exact wt); (focus rfl); (focus (exact qg1))) | (apply run_qg 4; (focus rfl); (focus exact wt); (focus rfl); (focus (first | exact qg4 | exact qs4))) | refine cod_seq ?_ | refine cod_region ?_ | refine run_nil ?_ | refine pst_then ?_ | (apply cod_cond_f; (focus rfl)) | refine cod_exit ?_ | refine cod_ret ?_ | refine pst_block_here ?_ | refine pst_then_exit ?_))
            exact pst_fin rfl (by exact resa) _ (R1 _ _) (by exact hsa)
theorem lens_any (q : Option Addr) (c : Nat) (F : List Int) (most : Int) (hl : F.length ≤ 1000000000000000) :
    Ct Try.prog 9 [.slice q F.length c, .int .i64 most] [sl 1 (.slice q F.length c) (F.map fI)] (LensR F most) := by
  by_cases h : chkE F = 0 ∧ 1 ≤ most ∧ most ≤ 15
  · obtain ⟨h1, h2, h3⟩ := h
    obtain ⟨m, hm⟩ : ∃ m : Nat, most = ((m + 1 : Nat) : Int) := ⟨most.toNat - 1, by omega⟩
    subst hm
    exact lens_good q c F m (chk_zero.1 h1) (by omega)
  · exact lens_bad q c F most hl h
end Go.Proofs.Ytppnaofebkpbkaa.huff
