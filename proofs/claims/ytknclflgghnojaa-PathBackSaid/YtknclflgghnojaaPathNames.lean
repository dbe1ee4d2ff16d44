/-
  path.names: the names of a way, one by one.
-/
import Derived.Test.YtknclflgghnojaaSlX
import Derived.Test.YtknclflgghnojaaGoodName
namespace Go.Proofs.Ytknclflgghnojaa.way
open Go.RowKit kit sl nam
set_option linter.unusedVariables false
/-- the names of a way, from a name begun on -/
def nmsA : List UInt8 → List UInt8 → List (List UInt8)
  | cur, [] => if cur = [] then [] else [cur]
  | cur, x :: t => if x = 47 then (if cur = [] then nmsA [] t else cur :: nmsA [] t) else nmsA (cur ++ [x]) t
def nms (s : List UInt8) : List (List UInt8) := nmsA [] s
theorem nmsA_cut (a b : List UInt8) : ∀ cur, 47 ∉ a → nmsA cur (a ++ 47 :: b) = if cur ++ a = [] then nms b else (cur ++ a) :: nms b := by
  induction a with
  | nil =>
    intro cur _
    rw [List.nil_append, List.append_nil, nmsA, if_pos rfl]
    rfl
  | cons x a ih =>
    intro cur h
    rw [List.cons_append, nmsA, if_neg (fun e => h (by rw [e]; exact List.mem_cons_self)), ih _ fun h2 => h (List.mem_cons_of_mem _ h2)]
    simp
theorem nmsA_whole (a : List UInt8) : ∀ cur, 47 ∉ a → nmsA cur a = if cur ++ a = [] then [] else [cur ++ a] := by
  induction a with
  | nil =>
    intro cur _
    rw [List.append_nil, nmsA]
  | cons x a ih =>
    intro cur h
    rw [nmsA, if_neg (fun e => h (by rw [e]; exact List.mem_cons_self)), ih _ fun h2 => h (List.mem_cons_of_mem _ h2)]
    simp
theorem nms_cut {a : List UInt8} (b : List UInt8) (h : 47 ∉ a) : nms (a ++ 47 :: b) = if a = [] then nms b else a :: nms b := nmsA_cut a b [] h
theorem nms_whole {a : List UInt8} (h : 47 ∉ a) : nms a = if a = [] then [] else [a] := nmsA_whole a [] h
theorem index_cases (r : List UInt8) : (Lib.indexByte r 47 = -1 ∧ 47 ∉ r) ∨ ∃ a b, r = a ++ 47 :: b ∧ 47 ∉ a ∧ Lib.indexByte r 47 = (a.length : Int) := by
  induction r with
  | nil => exact .inl ⟨rfl, List.not_mem_nil⟩
  | cons x t ih =>
    by_cases hx : x = 47
    · subst hx
      exact .inr ⟨[], t, rfl, List.not_mem_nil, by simp [Lib.indexByte]⟩
    · have e : (x == 47) = false := by simpa using hx
      rcases ih with ⟨h1, h2⟩ | ⟨a, b, h1, h2, h3⟩
      · refine .inl ⟨by simp [Lib.indexByte, e, h1], ?_⟩
        intro h
        rcases List.mem_cons.1 h with h | h
        · exact hx h.symm
        · exact h2 h
      · refine .inr ⟨x :: a, b, by rw [h1]; rfl, ?_, ?_⟩
        · intro h
          rcases List.mem_cons.1 h with h | h
          · exact hx h.symm
          · exact h2 h
        · have : ¬ ((a.length : Int) = -1) := by omega
          simp [Lib.indexByte, e, h3, this]
instance : Cal Try.prog 76 := ⟨by kernel_rfl⟩
attribute [local irreducible] box own sl old bptr eptr Qt Opr Run Cod Pst Drn
set_option maxRecDepth 100000 in
set_option maxHeartbeats 8000000 in
theorem names_any (s : List UInt8) : Ct Try.prog 60 [.string (str s)] [] fun v H' => ∃ b, v = .func (.func 76) #[] #[bptr b 0] ∧ H' = [box b [.string (str s)] 9] := by
  (refine spec_enter Try.func60 Try.ntmps60 rfl rfl fun Fr => ?_; dsimp only [List.cons_append, List.nil_append, ini, Nat.reduceAdd])
  (repeat' (first | (apply run_qg 1; (focus rfl); (focus exact wt); (focus rfl); (focus (exact qg1))) | (apply run_qg 5; (focus rfl); (focus exact wt); (focus rfl); (focus (exact qg5))) | refine cod_seq ?_ | refine cod_region ?_ | refine run_nil ?_ | refine pst_then ?_ | refine cod_ret ?_ | (apply run_osg 8; (focus rfl); (focus exact wt); (focus rfl); (focus (exact opr_box_one rfl rfl rfl)); (rintro _ _ ⟨b, rfl, rfl⟩))))
  exact pst_fin rfl (by exact resa) _ (⟨_, rfl, rfl⟩) (by exact hsa)
attribute [local irreducible] XCod XRun XPst lrec dfr
theorem box_last (x y : Ent) (b : Ent) (A : List Ent) : (b :: x :: y :: A).Perm (x :: y :: (A ++ [b])) := by
  refine List.Perm.trans (List.Perm.swap _ _ _) (List.Perm.cons _ ?_)
  refine List.Perm.trans (List.Perm.swap _ _ _) (List.Perm.cons _ ?_)
  exact (List.perm_append_singleton b A).symm
set_option maxRecDepth 100000 in
set_option maxHeartbeats 8000000 in
theorem it_names {l dd b : Nat} {rec : Recs} {s : List UInt8} {A0 : List Ent} (hs : s.length ≤ 1000000) (J : List (List UInt8) → List Ent → Prop) (X : Code → List Ent → Prop)
    (hr : ∀ pre x post A, nms s = pre ++ x :: post → J pre A → RoundX Try.prog l dd rec #[.string (str x)] A (fun B => J (pre ++ [x]) B) X) (h0 : J [] A0) :
    ICall Try.prog 76 [.func (.yield l) #[] #[], bptr b 0] (lrec l (rec .ready none) :: dfr dd :: box b [.string (str s)] 9 :: A0)
      fun H' => (∃ L, J (nms s) L ∧ H' = lrec l (rec .ready none) :: dfr dd :: L) ∨ ∃ c L, X c L ∧ H' = lrec l (rec .done (some c)) :: dfr dd :: L := by
  refine icall_enter Try.func76 Try.ntmps76 rfl rfl ?_
  dsimp only [List.cons_append, List.nil_append, ini, Nat.reduceAdd]
  refine xcod_block ?_
  refine xcod_loop (σ := List UInt8 × List (List UInt8) × List Ent) (fun x => nms s = x.2.1 ++ nms x.1 ∧ x.1.length ≤ s.length ∧ J x.2.1 x.2.2) (fun _ => [(0, Value.func (.yield l) #[] #[]), (1, bptr b 0)]) (fun x => box b [.string (str x.1)] 9 :: lrec l (rec .ready none) :: dfr dd :: x.2.2) (fun x => x.1.length) (s, [], A0) ⟨rfl, Nat.le_refl _, h0⟩ (FSub.of (by (try dsimp only); exact fsa)) (hsub_perm (List.Perm.trans (List.Perm.cons _ (List.Perm.swap _ _ _)) (List.Perm.swap _ _ _))) ?_
  rintro ⟨r, pre, A⟩ ⟨g1, g2, g3⟩
  dsimp only at g1 g2 g3 ⊢
  by_cases hr0 : r = []
  · have e0 : (r == []) = true := by rw [hr0]; rfl
    (repeat' (first | (apply xrun_qg 1; (focus rfl); (focus exact wt); (focus rfl); (focus (first | exact qg2 | exact qs2))) | (apply xrun_qg 3; (focus rfl); (focus exact wt); (focus rfl); (focus (first | exact qg4 | exact qs4))) | refine xcod_seq ?_ | refine xcod_region ?_ | refine xrun_nil ?_ | refine xpst_then ?_ | (apply xcod_cond_f; (focus rfl)) | refine xcod_exit ?_ | refine xpst_block_here ?_ | refine xpst_then_exit ?_))
    refine xpst_fin_end (rs := []) rfl Res.r0 _ (Or.inl ⟨A, by rw [g1, hr0]; simpa [nms, nmsA] using g3, rfl⟩) ?_
    rw [List.append_nil]
    exact HSub.drop (HSub.refl _)
  · have e0 : (r == []) = false := by simpa using hr0
    have I0 := ibyte_any r 47
    rw [show ((47 : Int).toNat.toUInt8) = 47 from rfl] at I0
    have hsl := hs
    rcases index_cases r with ⟨k1, k2⟩ | ⟨a, t, k1, k2, k3⟩
    · rw [k1] at I0
      have hpos : 0 < r.length := List.length_pos_iff.2 hr0
      have hn : nms r = [r] := by rw [nms_whole k2, if_neg hr0]
      have hmin : min ((r.length : Int) + 1) (r.length : Int) = (r.length : Int) := by omega
      have hd : List.drop r.length r = [] := List.drop_length
      (repeat' (first | (apply xrun_qg 0; (focus rfl); (focus exact wt); (focus rfl); (focus (exact qg1))) | (apply xrun_qg 1; (focus rfl); (focus exact wt); (focus rfl); (focus (first | exact qg2 | exact qs2))) | (apply xrun_qg 3; (focus rfl); (focus exact wt); (focus rfl); (focus (first | exact qg4 | exact qs4))) | (apply xrun_qg 5; (focus rfl); (focus exact wt); (focus rfl); (focus (first | exact qs6 | exact qg6 | exact q_max rfl rfl rfl | exact q_sliceData rfl rfl (by omega) | exact q_sliceDataN rfl rfl | exact q_unsafeStringN rfl rfl rfl | exact q_cap_slice rfl rfl))) | (apply xrun_qg 11; (focus rfl); (focus exact wt); (focus rfl); (focus (first | exact qs12 | exact q_cutp rfl rfl rfl rfl (by omega) (by omega) | exact q_slice_cap rfl rfl rfl rfl (by omega)))) | refine xcod_seq ?_ | refine xcod_region ?_ | refine xrun_nil ?_ | refine xpst_then ?_ | (apply xcod_cond_t; (focus rfl)) | refine xcod_block ?_ | refine xcod_skip ?_ | (apply xrun_osg 6; (focus rfl); (focus exact wt); (focus rfl); (focus (exact opr_call_ls (by rfl) (I0 ..) (by rfl) lpa)); (rintro _ _ ⟨rfl, rfl⟩))))
      rw [List.take_length]
      refine xrun_yield (R := [box b [.string (str r)] 9]) wt rfl rfl rfl (hr pre r [] A (by rw [g1, hn]) g3) (hsub_perm (box_last _ _ _ _)) ?_ ?_
      · intro L hL
        refine xrun_heap (hsub_perm (box_last _ _ _ _).symm) ?_
        (repeat' (first | (apply xrun_qg 0; (focus rfl); (focus exact wt); (focus rfl); (focus (exact qg1))) | (apply xrun_qg 1; (focus rfl); (focus exact wt); (focus rfl); (focus (first | exact qg2 | exact qs2))) | (apply xrun_qg 3; (focus rfl); (focus exact wt); (focus rfl); (focus (first | exact qg4 | exact qs4))) | (apply xrun_qg 5; (focus rfl); (focus exact wt); (focus rfl); (focus (first | exact qs6 | exact qg6 | exact q_max rfl rfl rfl | exact q_sliceData rfl rfl (by omega) | exact q_sliceDataN rfl rfl | exact q_unsafeStringN rfl rfl rfl | exact q_cap_slice rfl rfl))) | (apply xrun_qg 11; (focus rfl); (focus exact wt); (focus rfl); (focus (first | exact qs12 | exact q_cutp rfl rfl rfl rfl (by omega) (by omega) | exact q_slice_cap rfl rfl rfl rfl (by omega)))) | refine xcod_region ?_ | refine xrun_nil ?_ | refine xpst_then ?_ | (apply xcod_cond_f; (focus rfl)) | refine xcod_skip ?_ | refine xpst_block ?_ | (apply xrun_ong 8; (focus rfl); (focus exact wt); (focus (exact opr_store_box_one rfl rfl rfl rfl (by exact pka) rfl (by exact seta))); (rintro _ _ ⟨rfl, rfl⟩))))
        refine xpst_again ([], pre ++ [r], L) ?_ (FSub.of (by (try dsimp only); exact fsa)) (HSub.refl _) ?_
        · exact ⟨by rw [g1, hn]; simp [nms, nmsA], by simp, hL⟩
        · exact hpos
      · intro c L hL
        (repeat' (first | (apply xrun_qg 0; (focus rfl); (focus exact wt); (focus rfl); (focus (exact qg1))) | (apply xrun_qg 3; (focus rfl); (focus exact wt); (focus rfl); (focus (first | exact qg4 | exact qs4))) | refine xrun_nil ?_ | refine xpst_then ?_ | (apply xcod_cond_t; (focus rfl)) | refine xcod_ret ?_ | refine xpst_block_ret ?_ | refine xpst_then_ret ?_))
        refine xpst_fin (rs := []) rfl Res.r0 _ (Or.inr ⟨c, L, hL, rfl⟩) ?_
        exact HSub.of_sub (by simp)
    · rw [k3] at I0
      have hrl : r.length = a.length + 1 + t.length := by rw [k1]; simp; omega
      have hmin : min ((a.length : Int) + 1) (r.length : Int) = ((a.length + 1 : Nat) : Int) := by omega
      have hd : List.drop (a.length + 1) r = t := by rw [k1]; simp
      have ht : List.take a.length r = a := by rw [k1]; simp
      have hcut := nms_cut t k2
      by_cases ha : a = []
      · have hl0 : a.length = 0 := by rw [ha]; rfl
        have hn : nms r = nms t := by rw [k1, hcut, if_pos ha]
        (repeat' (first | (apply xrun_qg 0; (focus rfl); (focus exact wt); (focus rfl); (focus (exact qg1))) | (apply xrun_qg 1; (focus rfl); (focus exact wt); (focus rfl); (focus (first | exact qg2 | exact qs2))) | (apply xrun_qg 3; (focus rfl); (focus exact wt); (focus rfl); (focus (first | exact qg4 | exact qs4))) | (apply xrun_qg 5; (focus rfl); (focus exact wt); (focus rfl); (focus (first | exact qs6 | exact qg6 | exact q_max rfl rfl rfl | exact q_sliceData rfl rfl (by omega) | exact q_sliceDataN rfl rfl | exact q_unsafeStringN rfl rfl rfl | exact q_cap_slice rfl rfl))) | (apply xrun_qg 11; (focus rfl); (focus exact wt); (focus rfl); (focus (first | exact qs12 | exact q_cutp rfl rfl rfl rfl (by omega) (by omega) | exact q_slice_cap rfl rfl rfl rfl (by omega)))) | refine xcod_seq ?_ | refine xcod_region ?_ | refine xrun_nil ?_ | refine xpst_then ?_ | (apply xcod_cond_t; (focus rfl)) | (apply xcod_cond_f; (focus rfl)) | refine xcod_block ?_ | refine xcod_skip ?_ | refine xpst_block ?_ | (apply xrun_ong 8; (focus rfl); (focus exact wt); (focus (exact opr_store_box_one rfl rfl rfl rfl (by exact pka) rfl (by exact seta))); (rintro _ _ ⟨rfl, rfl⟩)) | (apply xrun_osg 6; (focus rfl); (focus exact wt); (focus rfl); (focus (exact opr_call_ls (by rfl) (I0 ..) (by rfl) lpa)); (rintro _ _ ⟨rfl, rfl⟩)) | (apply xrun_offs; (focus rfl); (focus rfl); (focus rfl))))
        refine xpst_again (t, pre, A) ?_ (FSub.of (by (try dsimp only); exact fsa)) (HSub.refl _) ?_
        · exact ⟨by rw [g1, hn], by dsimp only; omega, g3⟩
        · dsimp only; omega
      · have hpos : 0 < a.length := List.length_pos_iff.2 ha
        have hn : nms r = a :: nms t := by rw [k1, hcut, if_neg ha]
        (repeat' (first | (apply xrun_qg 0; (focus rfl); (focus exact wt); (focus rfl); (focus (exact qg1))) | (apply xrun_qg 1; (focus rfl); (focus exact wt); (focus rfl); (focus (first | exact qg2 | exact qs2))) | (apply xrun_qg 3; (focus rfl); (focus exact wt); (focus rfl); (focus (first | exact qg4 | exact qs4))) | (apply xrun_qg 11; (focus rfl); (focus exact wt); (focus rfl); (focus (first | exact qs12 | exact q_cutp rfl rfl rfl rfl (by omega) (by omega) | exact q_slice_cap rfl rfl rfl rfl (by omega)))) | refine xcod_seq ?_ | refine xcod_region ?_ | refine xrun_nil ?_ | refine xpst_then ?_ | (apply xcod_cond_t; (focus rfl)) | (apply xcod_cond_f; (focus rfl)) | refine xcod_block ?_ | refine xcod_skip ?_ | (apply xrun_osg 6; (focus rfl); (focus exact wt); (focus rfl); (focus (exact opr_call_ls (by rfl) (I0 ..) (by rfl) lpa)); (rintro _ _ ⟨rfl, rfl⟩))))
        refine xrun_yield (R := [box b [.string (str r)] 9]) wt rfl rfl rfl (hr pre a (nms t) A (by rw [g1, hn]) g3) (hsub_perm (box_last _ _ _ _)) ?_ ?_
        · intro L hL
          refine xrun_heap (hsub_perm (box_last _ _ _ _).symm) ?_
          (repeat' (first | (apply xrun_qg 0; (focus rfl); (focus exact wt); (focus rfl); (focus (exact qg1))) | (apply xrun_qg 1; (focus rfl); (focus exact wt); (focus rfl); (focus (first | exact qg2 | exact qs2))) | (apply xrun_qg 3; (focus rfl); (focus exact wt); (focus rfl); (focus (first | exact qg4 | exact qs4))) | (apply xrun_qg 5; (focus rfl); (focus exact wt); (focus rfl); (focus (first | exact qs6 | exact qg6 | exact q_max rfl rfl rfl | exact q_sliceData rfl rfl (by omega) | exact q_sliceDataN rfl rfl | exact q_unsafeStringN rfl rfl rfl | exact q_cap_slice rfl rfl))) | (apply xrun_qg 11; (focus rfl); (focus exact wt); (focus rfl); (focus (first | exact qs12 | exact q_cutp rfl rfl rfl rfl (by omega) (by omega) | exact q_slice_cap rfl rfl rfl rfl (by omega)))) | refine xcod_region ?_ | refine xrun_nil ?_ | refine xpst_then ?_ | (apply xcod_cond_f; (focus rfl)) | refine xcod_skip ?_ | refine xpst_block ?_ | (apply xrun_ong 8; (focus rfl); (focus exact wt); (focus (exact opr_store_box_one rfl rfl rfl rfl (by exact pka) rfl (by exact seta))); (rintro _ _ ⟨rfl, rfl⟩))))
          refine xpst_again (t, pre ++ [a], L) ?_ (FSub.of (by (try dsimp only); exact fsa)) (HSub.refl _) ?_
          · exact ⟨by rw [g1, hn]; simp, by dsimp only; omega, hL⟩
          · dsimp only; omega
        · intro c L hL
          (repeat' (first | (apply xrun_qg 0; (focus rfl); (focus exact wt); (focus rfl); (focus (exact qg1))) | (apply xrun_qg 3; (focus rfl); (focus exact wt); (focus rfl); (focus (first | exact qg4 | exact qs4))) | refine xrun_nil ?_ | refine xpst_then ?_ | (apply xcod_cond_t; (focus rfl)) | refine xcod_ret ?_ | refine xpst_block_ret ?_ | refine xpst_then_ret ?_))
          refine xpst_fin (rs := []) rfl Res.r0 _ (Or.inr ⟨c, L, hL, rfl⟩) ?_
          exact HSub.of_sub (by simp)
end Go.Proofs.Ytknclflgghnojaa.way
