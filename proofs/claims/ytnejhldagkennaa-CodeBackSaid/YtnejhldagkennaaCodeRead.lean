/-
  code.Read: the walk.
-/
import Derived.Test.YtnejhldagkennaaBookOne
namespace Go.Proofs.Ytnejhldagkennaa.code
open Go.RowKit kit sl lens
set_option linter.unusedVariables false
attribute [local irreducible] bkC
theorem idx_cnt (l : List Int) (w : Nat) : ∀ k, k ≤ l.length → (idx l w k).length = cnt (l.take k) w := by
  intro k
  induction k with
  | zero => intro _; rfl
  | succ k ih =>
    intro hk
    obtain ⟨x, hx⟩ : ∃ x, l[k]? = some x := ⟨_, List.getElem?_eq_getElem (by omega)⟩
    rw [idx_next hx, cnt_next hx]
    split
    · rw [List.length_append, List.length_singleton, ih (by omega)]
    · rw [ih (by omega), Nat.add_zero]
theorem sgs_mono (l : List Int) (a : Nat) : ∀ b, a ≤ b → (sgs l a).length ≤ (sgs l b).length := by
  intro b h
  induction b with
  | zero => rw [show a = 0 by omega]; exact Nat.le_refl _
  | succ b ih =>
    rcases Nat.lt_or_ge a (b + 1) with h1 | h1
    · have := ih (by omega)
      rw [sgs, List.length_append]
      omega
    · rw [show a = b + 1 by omega]; exact Nat.le_refl _
theorem book_A {l : List Int} (hl : l.length ≤ 320) : ∀ v, v < 16 → 0 ≤ fA l 16 v ∧ fA l 16 v ≤ 100000000 := by
  intro v hv
  have := nxt_bd l hl v (by omega)
  unfold fA
  rw [if_pos hv]
  omega
theorem book_C {l : List Int} (hl : l.length ≤ 320) : ∀ v, v < 16 → 0 ≤ fC l v ∧ fC l v ≤ 100000000 := by
  intro v hv
  have := fC_le l v
  omega
theorem book_R (l : List Int) : ∀ v, v < 16 → 0 ≤ fR l 16 v ∧ fR l 16 v + fC l v ≤ ((sgs l 15).length : Int) := by
  intro v hv
  unfold fR fC
  rw [if_pos hv]
  cases v with
  | zero => rw [if_pos rfl]; exact ⟨Int.le_refl _, by show (0 : Int) + 0 ≤ _; omega⟩
  | succ v =>
    have h1 := sgs_mono l (v + 1) 15 (by omega)
    have h2 := idx_cnt l (v + 1) l.length (Nat.le_refl _)
    rw [List.take_length] at h2
    have h3 : (sgs l (v + 1)).length = (sgs l v).length + cnt l (v + 1) := by rw [sgs, List.length_append, h2]
    rw [if_neg (by omega), Nat.add_sub_cancel]
    omega
/-- one sign from a place on -/
def one (l : List Int) (s : List UInt8) (k : Nat) : Int × Nat × Int := oneF (fA l 16) (fR l 16) (fC l) (sgs l 15) s 16 0 0 k
theorem oneF_at {A R C : Nat → Int} {sg : List Int} {s : List UInt8} : ∀ (f w c k : Nat), k ≤ 8 * s.length → (oneF A R C sg s f w c k).2.2 = 0 → k ≤ (oneF A R C sg s f w c k).2.1 ∧ (oneF A R C sg s f w c k).2.1 ≤ 8 * s.length := by
  intro f
  induction f with
  | zero => intro w c k _ h; simp [oneF] at h
  | succ f ih =>
    intro w c k hk h
    rw [oneF] at h ⊢
    split
    · exact ⟨Nat.le_refl _, hk⟩
    · rename_i h1
      rw [if_neg h1] at h
      split
      · rename_i h2
        rw [if_pos h2] at h
        simp at h
      · rename_i h2
        rw [if_neg h2] at h
        split
        · rename_i h3
          rw [if_pos h3] at h
          simp at h
        · rename_i h3
          rw [if_neg h3] at h
          have := ih _ _ _ (by omega) h
          omega
/-- n signs -/
def readF (l : List Int) (s : List UInt8) : Nat → Nat → List Int → List Int × Nat × Int
  | 0, k, out => (out, k, 0)
  | n + 1, k, out => if (one l s k).2.2 = 0 then readF l s n (one l s k).2.1 (out ++ [(one l s k).1]) else ([], 0, (one l s k).2.2)
def readV (l : List Int) (s : List UInt8) (k n : Nat) : List Int × Nat × Int := if canonE l = 0 then readF l s n k [] else ([], 0, (canonE l : Int))
theorem canon_good {l : List Int} (h : canonE l = 0) : l.length ≤ 320 ∧ ∀ x ∈ l, 0 ≤ x ∧ x ≤ 15 := by
  have h1 : lensE l = 0 := by
    unfold canonE at h
    split at h
    · rename_i h9; exact absurd h h9
    · rename_i h9; exact Decidable.not_not.1 h9
  unfold lensE at h1
  split at h1
  · cases h1
  · rename_i h2
    split at h1
    · cases h1
    · rename_i h3
      exact ⟨by omega, fun x hx => badX_mem (by simpa using h3) hx⟩
theorem ct_mono {P : Program} {f : FuncId} {args : List Value} {H : List Ent} {R R' : Value → List Ent → Prop} (h : Ct P f args H R) (k : ∀ v H', R v H' → R' v H') : Ct P f args H R' := ⟨fun Fr w hw => (h.go Fr w hw).mono fun e w' ⟨v, H', h1, h2, h3⟩ => ⟨v, H', h1, k v H' h2, h3⟩⟩
attribute [local irreducible] box own sl old bptr eptr Qt Opr Run Cod Pst Drn
set_option maxRecDepth 100000 in
set_option maxHeartbeats 8000000 in
theorem read_any (q : Option Addr) (c : Nat) (l : List Int) (s : List UInt8) (k n : Nat) (hg : ∀ x ∈ l, (Lit.int .i64 x).wf = true) (hn : l.length ≤ 1000000000000000) (hs : s.length ≤ 140737488351232) (hk : k ≤ 8 * s.length) (hn2 : n ≤ 1024) :
    Ct Try.prog 15 [.slice q l.length c, .string (str s), .int .i64 (k : Int), .int .i64 (n : Int)] [sl 1 (.slice q l.length c) (l.map fI)]
      fun v H' => ∃ q2 c2, v = .tuple #[.slice q2 (readV l s k n).1.length c2, .int .i64 ((readV l s k n).2.1 : Int), .int .i64 (readV l s k n).2.2] ∧ H' = [own (.slice q2 (readV l s k n).1.length c2) 3 1 (readV l s k n).1.length (flat fI (readV l s k n).1)] := by
  have C0 := canon_ct q c l hg hn
  by_cases hc : canonE l = 0
  · obtain ⟨hl, hb⟩ := canon_good hc
    have M0 := make_any q c l hb hl
    have e : readV l s k n = readF l s n k [] := by unfold readV; rw [if_pos hc]
    rw [e]
    have C1 : Ct Try.prog 35 [.slice q l.length c] [sl 1 (.slice q l.length c) (l.map fI)] fun v H' => ∃ q c, v = .tuple #[.slice q l.length c, .int .i64 0] ∧ H' = [own (.slice q l.length c) 3 1 l.length (flat fI (codes l))] := ct_mono C0 fun v H' h => by
      rcases h with ⟨h1, _⟩ | ⟨_, h2⟩
      · exact absurd hc h1
      · exact h2
    unfold bookC at M0
    obtain ⟨r, hr⟩ : ∃ r, readF l s n k [] = r := ⟨_, rfl⟩
    rw [hr]
    (refine spec_enter Try.func15 Try.ntmps15 rfl rfl fun Fr => ?_; dsimp only [List.cons_append, List.nil_append, ini, Nat.reduceAdd])
    (repeat' (first | (apply run_qg 1; (focus rfl); (focus exact wt); (focus rfl); (focus (exact qg1))) | refine cod_seq ?_ | refine cod_region ?_ | refine run_nil ?_ | refine pst_then ?_))
    (refine run_os wt rfl (opr_call_l rfl (C1) rfl (by exact lpa)) ?_; rintro _ _ ⟨_, ⟨q1, c1, rfl, rfl⟩, rfl⟩; dsimp only [List.cons_append, List.nil_append])
    (repeat' (first | (apply run_qg 1; (focus rfl); (focus exact wt); (focus rfl); (focus (exact qg1))) | (apply run_qg 4; (focus rfl); (focus exact wt); (focus rfl); (focus (first | exact qg4 | exact qs4))) | (apply run_qg 6; (focus rfl); (focus exact wt); (focus rfl); (focus (first | exact qs6 | exact qg6 | exact q_max rfl rfl rfl | exact q_sliceData rfl rfl (by omega) | exact q_sliceDataN rfl rfl | exact q_unsafeStringN rfl rfl rfl | exact q_cap_slice rfl rfl))) | refine cod_seq ?_ | refine cod_region ?_ | refine run_nil ?_ | refine pst_then ?_ | (apply cod_cond_f; (focus rfl)) | refine cod_skip ?_))
    (refine run_os wt rfl (opr_call_l rfl (M0) rfl (by exact lpa)) ?_; rintro _ _ ⟨_, ⟨q2, c2, rfl, rfl⟩, rfl⟩; dsimp only [List.cons_append, List.nil_append])
    have O0 := fun b k' hk' => one_any b q2 c2 (sgs l 15) (fA l 16) (fR l 16) (fC l) s k' (book_A hl) (book_C hl) (book_R l) (by have h9 := sgs_len l 15; have : 15 * l.length ≤ 15 * 320 := Nat.mul_le_mul_left _ hl; omega) hs hk'
    (repeat' (first | (apply run_osg 8; (focus rfl); (focus exact wt); (focus rfl); (focus (exact opr_new rfl)); (rintro _ _ ⟨b, rfl, rfl⟩))))
    refine run_on wt (opr_store_box_agg rfl rfl rfl pka (bk_len ..) (by rw [bk_len]; rfl) ?_ (splice_all (by rw [bk_len]; rfl))) ?_
    · unfold bkC; simp [Value.oneCell']
    rintro _ _ ⟨rfl, rfl⟩
    (repeat' (first | (apply run_qg 1; (focus rfl); (focus exact wt); (focus rfl); (focus (exact qg1))) | refine cod_seq ?_ | refine cod_region ?_ | refine run_nil ?_ | refine pst_then ?_ | refine cod_block ?_))
    refine cod_heap (heap_nil _ 3 1) ?_
    (refine cod_loop_rw (σ := Nat × Nat × Option Addr × Nat × List Int) (fun x => x.1 ≤ n ∧ x.2.1 ≤ 8 * s.length ∧ x.2.2.2.2.length = x.1 ∧ readF l s (n - x.1) x.2.1 x.2.2.2.2 = r) (fun x => [(44, .int .i64 (x.1 : Int)), (2, .int .i64 (x.2.1 : Int)), (14, .slice x.2.2.1 x.2.2.2.2.length x.2.2.2.1)]) (fun x => [box b (bkC (.slice q2 (sgs l 15).length c2) (fA l 16) (fR l 16) (fC l)) 71, own (.slice x.2.2.1 x.2.2.2.2.length x.2.2.2.1) 3 1 x.2.2.2.2.length (flat fI x.2.2.2.2)]) _ (fun x => n - x.1) ((0, k, none, 0, [])) (by exact ⟨Nat.zero_le _, hk, rfl, hr⟩) (by exact fsa) (by (first | exact HSub.of_picks_rest (by exact pca))) (fun ⟨i, k', q3, c3, out⟩ ⟨hi, hk', hol, hrd⟩ => ?_); dsimp only [List.cons_append, List.nil_append])
    dsimp only at hi hk' hol hrd ⊢
    rcases Nat.lt_or_ge i n with hlt | hge
    · rw [show n - i = (n - (i + 1)) + 1 by omega, readF] at hrd
      have O1 := O0 b k' hk'
      have hat := oneF_at (A := fA l 16) (R := fR l 16) (C := fC l) (sg := sgs l 15) (s := s) 16 0 0 k' hk'
      rcases ho : one l s k' with ⟨x, nx, e⟩
      unfold one at ho
      rw [ho] at O1 hat
      unfold one at hrd
      rw [ho] at hrd
      dsimp only at O1 hat hrd
      by_cases he : e = 0
      · subst he
        rw [if_pos rfl] at hrd
        obtain ⟨ha1, ha2⟩ := hat rfl
        (repeat' (first | (apply run_qg 1; (focus rfl); (focus exact wt); (focus rfl); (focus (exact qg1))) | (apply run_qg 4; (focus rfl); (focus exact wt); (focus rfl); (focus (first | exact qg4 | exact qs4))) | refine cod_seq ?_ | refine cod_region ?_ | refine run_nil ?_ | refine pst_then ?_ | (apply cod_cond_t; (focus rfl)) | refine cod_block ?_ | refine cod_skip ?_))
        (refine run_os wt rfl (opr_call_l rfl (O1) rfl (by exact lpa)) ?_; rintro _ _ ⟨_, ⟨rfl, rfl⟩, rfl⟩; dsimp only [List.cons_append, List.nil_append])
        (repeat' (first | (apply run_qg 1; (focus rfl); (focus exact wt); (focus rfl); (focus (exact qg1))) | (apply run_qg 4; (focus rfl); (focus exact wt); (focus rfl); (focus (first | exact qg4 | exact qs4))) | refine cod_seq ?_ | refine cod_region ?_ | refine run_nil ?_ | refine pst_then ?_ | (apply cod_cond_f; (focus rfl)) | refine cod_skip ?_ | (apply run_osg 10; (focus rfl); (focus exact wt); (focus rfl); (focus (exact opr_buildSlice rfl rfl rfl (by exact blda) rfl rfl (by decide) rfl)); (rintro _ _ ⟨q, rfl, rfl⟩))))
        refine run_os wt rfl (by first | exact opr_append_lit0 (fI) [x] rfl rfl rfl (by exact pka) (by rfl) (by rfl) (by intro _; rfl) (by (first | exact one_fS | exact one_fI | exact one_fB | exact one_fP | exact one_fIIS | exact one_fIIIS | exact one_fII | exact one_fSI | exact one_fIIU | exact one_fY | exact one_fBl | exact one_fT | exact one_fE | assumption)) rfl (by simp only [List.length_cons, List.length_nil]; omega) (by (unfold maxLen); simp only [List.length_cons, List.length_nil]; omega) | exact opr_append_lit (fI) [x] rfl rfl rfl (by exact pka) (by exact pka) (by rfl) (by rfl) (by first | rfl | omega) (by intro _; rfl) (by (first | exact one_fS | exact one_fI | exact one_fB | exact one_fP | exact one_fIIS | exact one_fIIIS | exact one_fII | exact one_fSI | exact one_fIIU | exact one_fY | exact one_fBl | exact one_fT | exact one_fE | assumption)) rfl (by simp only [List.length_cons, List.length_nil]; omega) (by (unfold maxLen); simp only [List.length_cons, List.length_nil]; omega)) ?_
        rintro _ _ ⟨q4, c4, rfl, rfl⟩
        (repeat' (first | (apply run_qg 1; (focus rfl); (focus exact wt); (focus rfl); (focus (exact qg1))) | (apply run_qg 4; (focus rfl); (focus exact wt); (focus rfl); (focus (first | exact qg4 | exact qs4))) | refine cod_region ?_ | refine run_nil ?_ | refine pst_then ?_ | refine pst_block ?_))
        refine pst_again ((i + 1, nx, q4, c4, out ++ [x])) ?_ (FSub.of (by (try dsimp only); exact fsa)) (by (try dsimp only); exact hsa) ?_
        · exact ⟨hlt, ha2, by dsimp only; rw [List.length_append, List.length_singleton, hol], hrd⟩
        · dsimp only; omega
      · rw [if_neg he] at hrd
        subst hrd
        (repeat' (first | (apply run_qg 1; (focus rfl); (focus exact wt); (focus rfl); (focus (exact qg1))) | (apply run_qg 4; (focus rfl); (focus exact wt); (focus rfl); (focus (first | exact qg4 | exact qs4))) | refine cod_seq ?_ | refine cod_region ?_ | refine run_nil ?_ | refine pst_then ?_ | (apply cod_cond_t; (focus rfl)) | refine cod_block ?_ | refine cod_skip ?_))
        (refine run_os wt rfl (opr_call_l rfl (O1) rfl (by exact lpa)) ?_; rintro _ _ ⟨_, ⟨rfl, rfl⟩, rfl⟩; dsimp only [List.cons_append, List.nil_append])
        (repeat' (first | (apply run_qg 1; (focus rfl); (focus exact wt); (focus rfl); (focus (exact qg1))) | (apply run_qg 4; (focus rfl); (focus exact wt); (focus rfl); (focus (first | exact qg4 | exact qs4))) | refine cod_seq ?_ | refine cod_region ?_ | refine run_nil ?_ | refine pst_then ?_ | (apply cod_cond_t; (focus rfl)) | refine cod_ret ?_ | refine pst_block_ret ?_ | refine pst_then_ret ?_))
        exact pst_fin rfl (by exact resa) _ (⟨none, 0, rfl, rfl⟩) (by exact hsa)
    · rw [show n - i = 0 by omega, readF] at hrd
      subst hrd
      (repeat' (first | (apply run_qg 1; (focus rfl); (focus exact wt); (focus rfl); (focus (exact qg1))) | (apply run_qg 4; (focus rfl); (focus exact wt); (focus rfl); (focus (first | exact qg4 | exact qs4))) | refine cod_seq ?_ | refine cod_region ?_ | refine run_nil ?_ | refine pst_then ?_ | (apply cod_cond_f; (focus rfl)) | refine cod_exit ?_ | refine cod_ret ?_ | refine pst_block_here ?_ | refine pst_then_exit ?_))
      exact pst_fin rfl (by exact resa) _ (⟨q3, c3, rfl, rfl⟩) (by exact hsa)
  · have e : readV l s k n = ([], 0, (canonE l : Int)) := by unfold readV; rw [if_neg hc]
    rw [e]
    have C1 : Ct Try.prog 35 [.slice q l.length c] [sl 1 (.slice q l.length c) (l.map fI)] fun v H' => v = .tuple #[.slice none 0 0, .int .i64 (canonE l : Int)] ∧ H' = [] := ct_mono C0 fun v H' h => by
      rcases h with ⟨_, h2⟩ | ⟨h1, _⟩
      · exact h2
      · exact absurd h1 hc
    generalize canonE l = ce at *
    (refine spec_enter Try.func15 Try.ntmps15 rfl rfl fun Fr => ?_; dsimp only [List.cons_append, List.nil_append, ini, Nat.reduceAdd])
    (repeat' (first | (apply run_qg 1; (focus rfl); (focus exact wt); (focus rfl); (focus (exact qg1))) | (apply run_qg 4; (focus rfl); (focus exact wt); (focus rfl); (focus (first | exact qg4 | exact qs4))) | refine cod_seq ?_ | refine cod_region ?_ | refine run_nil ?_ | refine pst_then ?_ | (apply cod_cond_t; (focus rfl)) | refine cod_ret ?_ | refine pst_then_ret ?_ | (apply run_osg 7; (focus rfl); (focus exact wt); (focus rfl); (focus (exact opr_call_ls (by rfl) (C1 ..) (by rfl) lpa)); (rintro _ _ ⟨rfl, rfl⟩))))
    exact pst_fin rfl (by exact resa) _ (⟨none, 0, rfl, rfl⟩) (by exact hsa)
end Go.Proofs.Ytnejhldagkennaa.code
