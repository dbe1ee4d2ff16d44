/-
  glob.signs, glob.list: the walks. (SAFE)
-/
import Derived.Test.YtcbpeampjhegcaaDoorGlobPat
import Derived.Test.YtcbpeampjhegcaaDoorSlX
import Derived.Test.YtcbpeampjhegcaaDoorSlRow
import Derived.Test.YtcbpeampjhegcaaDoorTypes
import Derived.Test.YtcbpeampjhegcaaDoorShelf
namespace Go.Proofs.YtcbpeampjhegcaaDoor.glob
open Go.RowKit kit sl
set_option linter.unusedVariables false
def fR (x : Nat) : List Value := [.int .i32 (x : Int)]
theorem one_fR (x : Nat) : ∀ u ∈ fR x, u.oneCell' = true := by simp [fR, Value.oneCell']
def TabsIn (W : World) : Prop := Lib.Utf8Tabs 0 1 W
theorem tabs_keep {W w : World} (h : TabsIn W) (hb : Below W.heap.size W w) : TabsIn w := by
  have hc : ∀ a v, W.cell? a = some v → w.cell? a = some v := fun a v ha => by
    have hl := World.block_lt_of_cell? W a ha
    exact (World.cell?_of_block (hb.block a.block hl)).trans ha
  exact ⟨fun c hc' => hc _ _ (h.1 c hc'), fun i hi => ⟨hc _ _ (h.2 i hi).1, hc _ _ (h.2 i hi).2⟩⟩
theorem dec_ct {W : World} (hT : TabsIn W) (s : List UInt8) : Ct Tryd.prog 22 [.string (str s)] [old W] fun v H' => v = .tuple #[.int .i32 ((decL s).1 : Int), .int .i64 ((decL s).2 : Int)] ∧ H' = [] :=
  ct_of_calls fun w hw => Tryd.utf8_DecodeRuneInString (str s) w (tabs_keep hT (hw.head : Below W.heap.size W w))
instance : Cal Tryd.prog 21 := ⟨by kernel_rfl⟩
theorem sigs_nil : sigs [] = [] := rfl
theorem sigs_step (b : UInt8) (t : List UInt8) : ∃ x n r, sgn (b :: t) = (x, n) ∧ (b :: t).drop n = r ∧ sigs (b :: t) = x :: sigs r ∧ (1 ≤ n ∧ n ≤ (b :: t).length) ∧ x < 1114368 ∧ ((decL (b :: t) = (65533, 1) ∧ x = 1114112 + b.toNat ∧ n = 1) ∨ (decL (b :: t) = (x, n) ∧ (x = 65533 → n ≠ 1))) := by
  rcases dec_cases b t with ⟨v, r, hb, hd⟩ | ⟨hd, hn⟩
  · obtain ⟨e1, e2⟩ := sgn_code hb
    have h1 := enc_long v
    obtain ⟨hv, a, ha, he⟩ := hb
    have hl := nn_len he
    refine ⟨v, (encN v).length, r, e1, e2, ?_, ⟨h1.1, by rw [ha, List.length_append]; omega⟩, by unfold okV at hv; omega, .inr ⟨hd, ?_⟩⟩
    · have := Sig.code hv he (sig_sigs r)
      rw [← ha] at this
      exact sig_eq this
    · intro e h2
      rw [e] at h2
      exact absurd h2 (by decide)
  · have := b.toNat_lt
    refine ⟨1114112 + b.toNat, 1, t, sgn_stray hn, rfl, sig_eq (.stray hn (sig_sigs t)), ⟨Nat.le_refl _, by simp⟩, by omega, .inl ⟨hd, rfl, rfl⟩⟩
attribute [local irreducible] box own sl old bptr eptr Qt Opr Run Cod Pst Drn
set_option maxRecDepth 100000 in
set_option maxHeartbeats 8000000 in
theorem signs_any (s : List UInt8) : Ct Tryd.prog 19 [.string (str s)] [] fun v H' => ∃ b, v = .func (.func 21) #[] #[bptr b 0] ∧ H' = [box b [.string (str s)] 9] := by
  (refine spec_enter Tryd.func19 Tryd.ntmps19 rfl rfl fun Fr => ?_; dsimp only [List.cons_append, List.nil_append, ini, Nat.reduceAdd])
  (repeat' (first | (apply run_qg 1; (focus rfl); (focus exact wt); (focus rfl); (focus (exact qg1))) | (apply run_qg 5; (focus rfl); (focus exact wt); (focus rfl); (focus (exact qg5))) | refine cod_seq ?_ | refine cod_region ?_ | refine run_nil ?_ | refine pst_then ?_ | refine cod_ret ?_ | (apply run_osg 8; (focus rfl); (focus exact wt); (focus rfl); (focus (exact opr_box_one rfl rfl rfl)); (rintro _ _ ⟨b, rfl, rfl⟩)) | fail))
  exact pst_fin rfl (by exact resa) _ (⟨_, rfl, rfl⟩) (by exact hsa)
attribute [local irreducible] XCod XRun XPst lrec dfr sigs decL
theorem box_two (x y : Ent) (b o : Ent) (A : List Ent) : (b :: o :: x :: y :: A).Perm (x :: y :: (A ++ [b, o])) := by
  have h1 : (b :: o :: x :: y :: A).Perm (x :: y :: b :: o :: A) := by
    refine List.Perm.trans (List.Perm.cons _ (List.Perm.swap _ _ _)) ?_
    refine List.Perm.trans (List.Perm.swap _ _ _) (List.Perm.cons _ ?_)
    refine List.Perm.trans (List.Perm.cons _ (List.Perm.swap _ _ _)) ?_
    exact List.Perm.swap _ _ _
  refine h1.trans (List.Perm.cons _ (List.Perm.cons _ ?_))
  exact (List.perm_append_comm (l₁ := [b, o]) (l₂ := A))
set_option maxRecDepth 100000 in
set_option maxHeartbeats 8000000 in
theorem it_signs {W : World} (hT : TabsIn W) {l dd b : Nat} {rec : Recs} {s : List UInt8} {A0 : List Ent} (hs : s.length ≤ 1000000) (J : List Nat → List Ent → Prop) (X : Code → List Ent → Prop)
    (hr : ∀ (pre : List Nat) (x : Nat) (post : List Nat) (A : List Ent), sigs s = pre ++ x :: post → J pre A → RoundX Tryd.prog l dd rec #[.int .i32 (x : Int)] A (fun B => J (pre ++ [x]) B) X) (h0 : J [] A0) :
    ICall Tryd.prog 21 [.func (.yield l) #[] #[], bptr b 0] (box b [.string (str s)] 9 :: old W :: lrec l (rec .ready none) :: dfr dd :: A0)
      fun H' => (∃ L, J (sigs s) L ∧ H' = lrec l (rec .ready none) :: dfr dd :: L) ∨ ∃ c L, X c L ∧ H' = lrec l (rec .done (some c)) :: dfr dd :: L := by
  refine icall_enter Tryd.func21 Tryd.ntmps21 rfl rfl ?_
  dsimp only [List.cons_append, List.nil_append, ini, Nat.reduceAdd]
  refine xcod_block ?_
  refine xcod_loop (σ := List UInt8 × List Nat × List Ent) (fun x => sigs s = x.2.1 ++ sigs x.1 ∧ x.1.length ≤ s.length ∧ J x.2.1 x.2.2) (fun _ => [(0, Value.func (.yield l) #[] #[]), (1, bptr b 0)]) (fun x => box b [.string (str x.1)] 9 :: old W :: lrec l (rec .ready none) :: dfr dd :: x.2.2) (fun x => x.1.length) (s, [], A0) ⟨rfl, Nat.le_refl _, h0⟩ (FSub.of (by (try dsimp only); exact fsa)) (HSub.refl _) ?_
  rintro ⟨r, pre, A⟩ ⟨g1, g2, g3⟩
  dsimp only at g1 g2 g3 ⊢
  cases r with
  | nil =>
    have e0 : (([] : List UInt8) == []) = true := rfl
    (repeat' (first | (apply xrun_qg 1; (focus rfl); (focus exact wt); (focus rfl); (focus (first | exact qg2 | exact qs2))) | (apply xrun_qg 3; (focus rfl); (focus exact wt); (focus rfl); (focus (first | exact qg4 | exact qs4))) | refine xcod_seq ?_ | refine xcod_region ?_ | refine xrun_nil ?_ | refine xpst_then ?_ | (apply xcod_cond_f; (focus rfl)) | refine xcod_exit ?_ | refine xpst_block_here ?_ | refine xpst_then_exit ?_ | fail))
    refine xpst_fin_end (rs := []) rfl Res.r0 _ (Or.inl ⟨A, by rw [g1, sigs_nil, List.append_nil]; exact g3, rfl⟩) ?_
    rw [List.append_nil]
    exact HSub.drop (HSub.drop (HSub.refl _))
  | cons c t =>
    have e0 : ((c :: t) == []) = false := rfl
    have D0 := dec_ct hT (c :: t)
    obtain ⟨x, n, r', h1, h2, h3, ⟨h4, h5⟩, hx, h6⟩ := sigs_step c t
    rw [h3] at g1
    have hc0 : (c :: t)[0]? = some c := rfl
    have hcb := c.toNat_lt
    have hrl : r'.length < (c :: t).length := by rw [← h2, List.length_drop]; simp only [List.length_cons] at h5 ⊢; omega
    have hlen : (c :: t).length ≤ 1000000 := by omega
    generalize hct : c :: t = ct at *
    rcases h6 with ⟨d1, rfl, rfl⟩ | ⟨d1, d2⟩
    · rw [d1] at D0
      dsimp only at D0
      have e1 : (1114112 : Int) + (c.toNat : Int) = ((1114112 + c.toNat : Nat) : Int) := by omega
      (repeat' (first | (apply xrun_qg 0; (focus rfl); (focus exact wt); (focus rfl); (focus (exact qg1))) | (apply xrun_qg 1; (focus rfl); (focus exact wt); (focus rfl); (focus (first | exact qg2 | exact qs2))) | (apply xrun_qg 2; (focus rfl); (focus exact wt); (focus rfl); (focus (first | exact qg3 | exact qs3))) | (apply xrun_qg 3; (focus rfl); (focus exact wt); (focus rfl); (focus (first | exact qg4 | exact qs4))) | (apply xrun_qg 10; (focus rfl); (focus exact wt); (focus rfl); (focus (exact qs11))) | refine xcod_seq ?_ | refine xcod_region ?_ | refine xrun_nil ?_ | refine xpst_then ?_ | (apply xcod_cond_t; (focus rfl)) | refine xcod_block ?_ | refine xcod_skip ?_ | (apply xrun_osg 6; (focus rfl); (focus exact wt); (focus rfl); (focus (exact opr_call_ls (by rfl) (D0 ..) (by rfl) lpa)); (rintro _ _ ⟨rfl, rfl⟩)) | fail))
      rw [e1]
      refine xrun_yield (R := [box b [.string (str ct)] 9, old W]) wt rfl rfl rfl (hr pre (1114112 + c.toNat) (sigs r') A g1 g3) (hsub_perm (box_two _ _ _ _ _)) ?_ ?_
      · intro L hL
        refine xrun_heap (hsub_perm (box_two _ _ _ _ _).symm) ?_
        (repeat' (first | (apply xrun_qg 0; (focus rfl); (focus exact wt); (focus rfl); (focus (exact qg1))) | (apply xrun_qg 1; (focus rfl); (focus exact wt); (focus rfl); (focus (first | exact qg2 | exact qs2))) | (apply xrun_qg 3; (focus rfl); (focus exact wt); (focus rfl); (focus (first | exact qg4 | exact qs4))) | (apply xrun_qg 11; (focus rfl); (focus exact wt); (focus rfl); (focus (first | exact qs12 | exact q_cutp rfl rfl rfl rfl (by omega) (by omega) | exact q_slice_cap rfl rfl rfl rfl (by omega)))) | refine xcod_region ?_ | refine xrun_nil ?_ | refine xpst_then ?_ | (apply xcod_cond_f; (focus rfl)) | refine xcod_skip ?_ | refine xpst_block ?_ | (apply xrun_ong 8; (focus rfl); (focus exact wt); (focus (exact opr_store_box_one rfl rfl rfl rfl (by exact pka) rfl (by exact seta))); (rintro _ _ ⟨rfl, rfl⟩)) | fail))
        refine xpst_again (r', pre ++ [(1114112 + c.toNat)], L) ?_ (FSub.of (by (try dsimp only); exact fsa)) (HSub.refl _) ?_
        · exact ⟨by rw [g1]; simp, by dsimp only; omega, hL⟩
        · exact hrl
      · intro c' L hL
        (repeat' (first | (apply xrun_qg 3; (focus rfl); (focus exact wt); (focus rfl); (focus (first | exact qg4 | exact qs4))) | refine xrun_nil ?_ | refine xpst_then ?_ | (apply xcod_cond_t; (focus rfl)) | refine xcod_ret ?_ | refine xpst_block_ret ?_ | refine xpst_then_ret ?_ | fail))
        refine xpst_fin (rs := []) rfl Res.r0 _ (Or.inr ⟨c', L, hL, rfl⟩) ?_
        exact HSub.of_sub (by simp)
    · rw [d1] at D0
      dsimp only at D0
      by_cases hx0 : x = 65533
      · have hn1 := d2 hx0
        (repeat' (first | (apply xrun_qg 0; (focus rfl); (focus exact wt); (focus rfl); (focus (exact qg1))) | (apply xrun_qg 1; (focus rfl); (focus exact wt); (focus rfl); (focus (first | exact qg2 | exact qs2))) | (apply xrun_qg 3; (focus rfl); (focus exact wt); (focus rfl); (focus (first | exact qg4 | exact qs4))) | refine xcod_seq ?_ | refine xcod_region ?_ | refine xrun_nil ?_ | refine xpst_then ?_ | (apply xcod_cond_t; (focus rfl)) | (apply xcod_cond_f; (focus rfl)) | refine xcod_block ?_ | refine xcod_skip ?_ | (apply xrun_osg 6; (focus rfl); (focus exact wt); (focus rfl); (focus (exact opr_call_ls (by rfl) (D0 ..) (by rfl) lpa)); (rintro _ _ ⟨rfl, rfl⟩)) | fail))
        refine xrun_yield (R := [box b [.string (str ct)] 9, old W]) wt rfl rfl rfl (hr pre x (sigs r') A g1 g3) (hsub_perm (box_two _ _ _ _ _)) ?_ ?_
        · intro L hL
          refine xrun_heap (hsub_perm (box_two _ _ _ _ _).symm) ?_
          (repeat' (first | (apply xrun_qg 0; (focus rfl); (focus exact wt); (focus rfl); (focus (exact qg1))) | (apply xrun_qg 1; (focus rfl); (focus exact wt); (focus rfl); (focus (first | exact qg2 | exact qs2))) | (apply xrun_qg 3; (focus rfl); (focus exact wt); (focus rfl); (focus (first | exact qg4 | exact qs4))) | (apply xrun_qg 11; (focus rfl); (focus exact wt); (focus rfl); (focus (first | exact qs12 | exact q_cutp rfl rfl rfl rfl (by omega) (by omega) | exact q_slice_cap rfl rfl rfl rfl (by omega)))) | refine xcod_region ?_ | refine xrun_nil ?_ | refine xpst_then ?_ | (apply xcod_cond_f; (focus rfl)) | refine xcod_skip ?_ | refine xpst_block ?_ | (apply xrun_ong 8; (focus rfl); (focus exact wt); (focus (exact opr_store_box_one rfl rfl rfl rfl (by exact pka) rfl (by exact seta))); (rintro _ _ ⟨rfl, rfl⟩)) | fail))
          refine xpst_again (r', pre ++ [x], L) ?_ (FSub.of (by (try dsimp only); exact fsa)) (HSub.refl _) ?_
          · exact ⟨by rw [g1]; simp, by dsimp only; omega, hL⟩
          · exact hrl
        · intro c' L hL
          (repeat' (first | (apply xrun_qg 3; (focus rfl); (focus exact wt); (focus rfl); (focus (first | exact qg4 | exact qs4))) | refine xrun_nil ?_ | refine xpst_then ?_ | (apply xcod_cond_t; (focus rfl)) | refine xcod_ret ?_ | refine xpst_block_ret ?_ | refine xpst_then_ret ?_ | fail))
          refine xpst_fin (rs := []) rfl Res.r0 _ (Or.inr ⟨c', L, hL, rfl⟩) ?_
          exact HSub.of_sub (by simp)
      · have hx1 : ¬ (x : Int) = 65533 := by omega
        (repeat' (first | (apply xrun_qg 0; (focus rfl); (focus exact wt); (focus rfl); (focus (exact qg1))) | (apply xrun_qg 1; (focus rfl); (focus exact wt); (focus rfl); (focus (first | exact qg2 | exact qs2))) | (apply xrun_qg 3; (focus rfl); (focus exact wt); (focus rfl); (focus (first | exact qg4 | exact qs4))) | refine xcod_seq ?_ | refine xcod_region ?_ | refine xrun_nil ?_ | refine xpst_then ?_ | (apply xcod_cond_t; (focus rfl)) | (apply xcod_cond_f; (focus rfl)) | refine xcod_block ?_ | refine xcod_skip ?_ | (apply xrun_osg 6; (focus rfl); (focus exact wt); (focus rfl); (focus (exact opr_call_ls (by rfl) (D0 ..) (by rfl) lpa)); (rintro _ _ ⟨rfl, rfl⟩)) | (apply xrun_offs; (focus rfl); (focus rfl); (focus rfl)) | fail))
        refine xrun_yield (R := [box b [.string (str ct)] 9, old W]) wt rfl rfl rfl (hr pre x (sigs r') A g1 g3) (hsub_perm (box_two _ _ _ _ _)) ?_ ?_
        · intro L hL
          refine xrun_heap (hsub_perm (box_two _ _ _ _ _).symm) ?_
          (repeat' (first | (apply xrun_qg 0; (focus rfl); (focus exact wt); (focus rfl); (focus (exact qg1))) | (apply xrun_qg 1; (focus rfl); (focus exact wt); (focus rfl); (focus (first | exact qg2 | exact qs2))) | (apply xrun_qg 3; (focus rfl); (focus exact wt); (focus rfl); (focus (first | exact qg4 | exact qs4))) | (apply xrun_qg 11; (focus rfl); (focus exact wt); (focus rfl); (focus (first | exact qs12 | exact q_cutp rfl rfl rfl rfl (by omega) (by omega) | exact q_slice_cap rfl rfl rfl rfl (by omega)))) | refine xcod_region ?_ | refine xrun_nil ?_ | refine xpst_then ?_ | (apply xcod_cond_f; (focus rfl)) | refine xcod_skip ?_ | refine xpst_block ?_ | (apply xrun_ong 8; (focus rfl); (focus exact wt); (focus (exact opr_store_box_one rfl rfl rfl rfl (by exact pka) rfl (by exact seta))); (rintro _ _ ⟨rfl, rfl⟩)) | fail))
          refine xpst_again (r', pre ++ [x], L) ?_ (FSub.of (by (try dsimp only); exact fsa)) (HSub.refl _) ?_
          · exact ⟨by rw [g1]; simp, by dsimp only; omega, hL⟩
          · exact hrl
        · intro c' L hL
          (repeat' (first | (apply xrun_qg 3; (focus rfl); (focus exact wt); (focus rfl); (focus (first | exact qg4 | exact qs4))) | refine xrun_nil ?_ | refine xpst_then ?_ | (apply xcod_cond_t; (focus rfl)) | refine xcod_ret ?_ | refine xpst_block_ret ?_ | refine xpst_then_ret ?_ | fail))
          refine xpst_fin (rs := []) rfl Res.r0 _ (Or.inr ⟨c', L, hL, rfl⟩) ?_
          exact HSub.of_sub (by simp)
theorem it_perm (x y b o : Ent) (A : List Ent) : (x :: y :: b :: o :: A).Perm (b :: o :: x :: y :: A) :=
  (List.perm_append_comm (l₁ := [x, y]) (l₂ := [b, o])).append_right A
/-- the signs so far -/
def LJ (b : Nat) (Fr : List Ent) (pre : List Nat) (A : List Ent) : Prop := ∃ q c, A = box b [.slice q pre.length c] 36 :: own (.slice q pre.length c) 21 1 pre.length (flat fR pre) :: Fr
set_option maxRecDepth 100000 in
set_option maxHeartbeats 8000000 in
theorem list_any {W : World} (hT : TabsIn W) (s : List UInt8) (hs : s.length ≤ 1000000) : Ct Tryd.prog 12 [.string (str s)] [old W] fun v H' => ∃ q c, v = .slice q (sigs s).length c ∧ H' = [own (.slice q (sigs s).length c) 21 1 (sigs s).length (flat fR (sigs s))] := by
  have C1 := signs_any s
  have hbd := (sig_bd (sig_sigs s)).1
  refine xspec_enter Tryd.func12 Tryd.ntmps12 rfl rfl fun Fr => ?_
  dsimp only [List.cons_append, List.nil_append, ini, Nat.reduceAdd]
  (repeat' (first | (apply xrun_qg 0; (focus rfl); (focus exact wt); (focus rfl); (focus (exact qg1))) | refine xcod_seq ?_ | refine xcod_region ?_ | refine xrun_nil ?_ | refine xpst_then ?_ | (apply xrun_osg 7; (focus rfl); (focus exact wt); (focus rfl); (focus (exact opr_new rfl)); (rintro _ _ ⟨b, rfl, rfl⟩)) | fail))
  (refine xrun_os wt rfl (opr_call_l rfl (C1) rfl (by exact lpa)) (by intro c h; cases h) ?_; rintro _ _ ⟨_, ⟨b5, rfl, rfl⟩, rfl⟩; try dsimp only [List.cons_append, List.nil_append])
  (repeat' (first | refine xrun_nil ?_ | refine xpst_then ?_ | refine xcod_block ?_ | fail))
  refine xcod_heap (heap_nil _ 21 1) ?_
  refine xcod_heap (H' := box b5 [.string (str s)] 9 :: old W :: box b [.slice none 0 0] 36 :: own (.slice none 0 0) 21 1 0 [] :: Fr) hsa ?_
  refine xcod_range (Hd := LJ b Fr (sigs s)) (Hx := fun _ _ => False) rfl ?_ ?_ ?_
  · intro l dd fn T hT'
    refine icall_heap (hsub_perm (it_perm _ _ _ _ _)) (it_signs hT hs (LJ b Fr) (fun _ _ => False) ?_ ?_)
    · rintro pre x post A hpost ⟨q, c, rfl⟩
      have hpl : pre.length < (sigs s).length := by rw [hpost]; simp
      have hone : ∀ y, ∀ u ∈ fR y, u.oneCell' = true := one_fR
      refine roundX_of hT' rfl fun Fr2 => ?_
      dsimp only [List.cons_append]
      (repeat' (first | (apply xrun_qg 0; (focus rfl); (focus exact wt); (focus rfl); (focus (exact qg1))) | refine xcod_region ?_ | refine xrun_nil ?_ | fail))
      refine xpst_begin (HSub.refl _) ?_
      (repeat' (first | (apply xrun_qg 0; (focus rfl); (focus exact wt); (focus rfl); (focus (exact qg1))) | (apply xrun_qg 1; (focus rfl); (focus exact wt); (focus rfl); (focus (first | exact qg2 | exact qs2))) | refine xcod_region ?_ | refine xcod_block ?_ | (apply xrun_osg 9; (focus rfl); (focus exact wt); (focus rfl); (focus (exact opr_buildSlice rfl rfl rfl (by exact blda) rfl rfl (by decide) rfl)); (rintro _ _ ⟨q, rfl, rfl⟩)) | fail))
      refine xrun_os wt rfl (by first | exact opr_append_lit0 (fR) [x] rfl rfl rfl (by exact pka) (by rfl) (by rfl) (by intro _; rfl) (by (first | exact one_fS | exact one_fI | exact one_fB | exact one_fP | exact one_fIIS | exact one_fIIIS | exact one_fII | exact one_fSI | exact one_fIIU | exact one_fY | exact one_fBl | exact one_fT | exact one_fE | assumption)) rfl (by simp only [List.length_cons, List.length_nil]; omega) (by (unfold maxLen); simp only [List.length_cons, List.length_nil]; omega) | exact opr_append_lit (fR) [x] rfl rfl rfl (by exact pka) (by exact pka) (by rfl) (by rfl) (by first | rfl | omega) (by intro _; rfl) (by (first | exact one_fS | exact one_fI | exact one_fB | exact one_fP | exact one_fIIS | exact one_fIIIS | exact one_fII | exact one_fSI | exact one_fIIU | exact one_fY | exact one_fBl | exact one_fT | exact one_fE | assumption)) rfl (by simp only [List.length_cons, List.length_nil]; omega) (by (unfold maxLen); simp only [List.length_cons, List.length_nil]; omega)) (by intro c h; cases h) ?_
      rintro _ _ ⟨q2, c2, rfl, rfl⟩
      (repeat' (first | refine xrun_nil ?_ | refine xpst_block ?_ | (apply xrun_ong 8; (focus rfl); (focus exact wt); (focus (exact opr_store_box_one rfl rfl rfl rfl (by exact pka) rfl (by exact seta))); (rintro _ _ ⟨rfl, rfl⟩)) | fail))
      refine xpst_round _ ⟨q2, c2, rfl⟩ hsa
    · exact ⟨none, 0, rfl⟩
  · rintro dd L ⟨q, c, rfl⟩
    (repeat' (first | (apply xrun_qg 0; (focus rfl); (focus exact wt); (focus rfl); (focus (exact qg1))) | (apply xrun_qg 1; (focus rfl); (focus exact wt); (focus rfl); (focus (first | exact qg2 | exact qs2))) | refine xcod_seq ?_ | refine xcod_region ?_ | refine xrun_nil ?_ | refine xpst_then ?_ | refine xcod_ret ?_ | refine xpst_block ?_ | fail))
    exact xpst_fin_mark rfl (HSub.of_picks_rest (.out (by exact pka) (.nil (List.Sublist.refl _)))) (by exact resa) _ (⟨q, c, rfl, rfl⟩) (by exact hsa)
  · rintro c dd L h
    exact absurd h id
end Go.Proofs.YtcbpeampjhegcaaDoor.glob
