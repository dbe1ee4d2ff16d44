/-
  huff.Cost, linenkeep.cost: the walks; what they answer.
-/
import Derived.Test.YtppnaofebkpbkaaHuffL
import Derived.Test.YtppnaofebkpbkaaHuffOk
import Derived.Test.YtppnaofebkpbkaaLens
namespace Go.Proofs.Ytppnaofebkpbkaa.huff
open Go.RowKit kit sl Go.Proofs.Ytppnaofebkpbkaa.pm
set_option linter.unusedVariables false
theorem ct_of_sl {P : Program} {f : FuncId} {args : List Value} {u v : Value} {sz : Nat} {rows : List (List Value)} (h : ∀ W, SliceAt W sz v rows → Calls P f args.toArray W fun e w' => e = .returned u ∧ W = w') : Ct P f args [sl sz v rows] fun x H' => x = u ∧ H' = [] :=
  ⟨fun Fr w hw => (h w (hw.1 (sl sz v rows) List.mem_cons_self)).mono fun e w' ⟨h1, h2⟩ => ⟨u, [], h1, ⟨rfl, rfl⟩, by subst h2; exact hw.tail⟩⟩
def dotK (F O : List Int) : Nat → Int
  | 0 => 0
  | k + 1 => dotK F O k + F.getD k 0 * O.getD k 0
theorem dot_next {F O : List Int} {k : Nat} {f o : Int} (hf : F[k]? = some f) (ho : O[k]? = some o) : dotK F O (k + 1) = dotK F O k + f * o := by
  rw [dotK, List.getD_eq_getElem?_getD, hf, List.getD_eq_getElem?_getD, ho]
  rfl
theorem bad_none : ∀ {O : List Int}, (∀ o ∈ O, 0 ≤ o ∧ o ≤ 15) → lens.badX O = false
  | [], _ => rfl
  | o :: O, h => by
    have h1 := h o List.mem_cons_self
    rw [lens.badX, if_neg (by omega)]
    exact bad_none fun x hx => h x (List.mem_cons_of_mem _ hx)
theorem fill_ok {O : List Int} (h : ∀ o ∈ O, 0 ≤ o ∧ o ≤ 15) (hl : O.length ≤ 320) : lens.lensE O = 0 := by
  unfold lens.lensE
  rw [if_neg (by omega), bad_none h]
  rfl
theorem fill_ct (q : Option Addr) (c : Nat) (O : List Int) (h : ∀ o ∈ O, 0 ≤ o ∧ o ≤ 15) (hl : O.length ≤ 320) :
    Ct Try.prog 25 [.slice q O.length c] [sl 1 (.slice q O.length c) (O.map fI)] fun v H' => v = .tuple #[.int .i64 (lens.fillA O : Int), .int .i64 0] ∧ H' = [] := by
  have e := fill_ok h hl
  refine ct_of_sl fun W hW => ?_
  have := lens.fill_any (.slice q O.length c) O W hW (fun x hx => by
    have := h x hx
    simp [Lit.wf, IntKind.min, IntKind.max, IntKind.signed, IntKind.bits]
    omega) (by omega)
  rw [e] at this
  exact this
attribute [local irreducible] box own sl old bptr eptr Qt Opr Run Cod Pst Drn
set_option maxRecDepth 100000 in
set_option maxHeartbeats 8000000 in
theorem cost_good (qa qb : Option Addr) (ca cb : Nat) (F O : List Int) (n : Nat) (hn : F.length = n) (hO : O.length = n) (hg : GoodF F) (h : ∀ o ∈ O, 0 ≤ o ∧ o ≤ 15) :
    Ct Try.prog 10 [.slice qa n ca, .slice qb n cb] [sl 1 (.slice qa n ca) (F.map fI), sl 1 (.slice qb n cb) (O.map fI)] fun v H' => v = .tuple #[.int .i64 (dotK F O n), .int .i64 0] ∧ H' = [] := by
  have hn320 := hg.1
  have CK := check_any qa ca F (by omega)
  rw [chk_zero.2 hg, hn] at CK
  have FL := fill_ct qb cb O h (by omega)
  rw [hO] at FL
  (refine spec_enter Try.func10 Try.ntmps10 rfl rfl fun Fr => ?_; dsimp only [List.cons_append, List.nil_append, ini, Nat.reduceAdd])
  (repeat' (first | (apply run_qg 1; (focus rfl); (focus exact wt); (focus rfl); (focus (exact qg1))) | (apply run_qg 4; (focus rfl); (focus exact wt); (focus rfl); (focus (first | exact qg4 | exact qs4))) | (apply run_qg 6; (focus rfl); (focus exact wt); (focus rfl); (focus (first | exact qs6 | exact qg6 | exact q_max rfl rfl rfl | exact q_sliceData rfl rfl (by omega) | exact q_sliceDataN rfl rfl | exact q_unsafeStringN rfl rfl rfl | exact q_cap_slice rfl rfl))) | refine cod_seq ?_ | refine cod_region ?_ | refine run_nil ?_ | refine pst_then ?_ | (apply cod_cond_f; (focus rfl)) | refine cod_block ?_ | refine cod_skip ?_ | (apply run_osg 7; (focus rfl); (focus exact wt); (focus rfl); (focus (exact opr_call_ls (by rfl) (CK ..) (by rfl) lpa)); (rintro _ _ ⟨rfl, rfl⟩)) | (apply run_osg 7; (focus rfl); (focus exact wt); (focus rfl); (focus (exact opr_call_ls (by rfl) (FL ..) (by rfl) lpa)); (rintro _ _ ⟨rfl, rfl⟩))))
  (refine cod_loop_ro (σ := Nat × Int) (fun s => (s.1 ≤ n ∧ s.2 = dotK F O s.1) ∧ (0 ≤ s.2 ∧ s.2 ≤ 15728640 * (s.1 : Int))) (fun s => [(32, .int .i64 (s.1 : Int)), (9, .int .i64 s.2)]) (fun s => n - s.1) ((0, 0)) (by exact ⟨⟨Nat.zero_le _, rfl⟩, by decide, by decide⟩) (by exact fsa) (fun ⟨k, d⟩ ⟨⟨hk, hd⟩, hd0, hd1⟩ => ?_); dsimp only [List.cons_append, List.nil_append])
  dsimp only at hk hd hd0 hd1
  rcases Nat.lt_or_ge k n with hlt | hge
  · obtain ⟨f, hf⟩ : ∃ f, F[k]? = some f := ⟨_, List.getElem?_eq_getElem (by omega)⟩
    obtain ⟨o, ho⟩ : ∃ o, O[k]? = some o := ⟨_, List.getElem?_eq_getElem (by omega)⟩
    have hff := hg.2 f (List.mem_of_getElem? hf)
    have hoo := h o (List.mem_of_getElem? ho)
    have hN := dot_next hf ho
    rw [← hd] at hN
    have m1 : f * o ≤ 1048576 * 15 := Int.le_trans (Int.mul_le_mul_of_nonneg_right hff.2 hoo.1) (Int.mul_le_mul_of_nonneg_left hoo.2 (by decide))
    have m0 : 0 ≤ f * o := Int.mul_nonneg hff.1 hoo.1
    (repeat' (first | (apply run_qg 1; (focus rfl); (focus exact wt); (focus rfl); (focus (exact qg1))) | (apply run_qg 2; (focus rfl); (focus exact wt); (focus rfl); (focus (first | exact qg2 | exact qs2))) | (apply run_qg 3; (focus rfl); (focus exact wt); (focus rfl); (focus (first | exact qg3 | exact qs3))) | (apply run_qg 4; (focus rfl); (focus exact wt); (focus rfl); (focus (first | exact qg4 | exact qs4))) | refine cod_seq ?_ | refine cod_region ?_ | refine run_nil ?_ | refine pst_then ?_ | (apply cod_cond_t; (focus rfl)) | refine cod_block ?_ | refine cod_skip ?_ | refine pst_block ?_))
    refine pst_again ((k + 1, d + f * o)) ?_ (FSub.of (by (try dsimp only); exact fsa)) (by (try dsimp only); exact hsa) ?_
    · exact ⟨⟨hlt, hN.symm⟩, by dsimp only; omega, by dsimp only; omega⟩
    · dsimp only; omega
  · have hkn : k = n := by omega
    subst hkn
    subst hd
    (repeat' (first | (apply run_qg 1; (focus rfl); (focus exact wt); (focus rfl); (focus (exact qg1))) | (apply run_qg 4; (focus rfl); (focus exact wt); (focus rfl); (focus (first | exact qg4 | exact qs4))) | refine cod_seq ?_ | refine cod_region ?_ | refine run_nil ?_ | refine pst_then ?_ | (apply cod_cond_f; (focus rfl)) | refine cod_exit ?_ | refine cod_ret ?_ | refine pst_block_here ?_ | refine pst_then_exit ?_))
    exact pst_fin rfl (by exact resa) _ (⟨rfl, rfl⟩) (by exact hsa)
def costC (F : List Int) (most : Int) : Int := if lensE F most = 0 then dotK F (lensL F most) F.length else -1
theorem lens_in {F : List Int} {most : Int} (h : lensE F most = 0) : ∀ o ∈ lensL F most, 0 ≤ o ∧ o ≤ 15 := fun o ho => by
  obtain ⟨l, hl, hok⟩ := lens_ok h
  obtain ⟨_, h1, h15, _⟩ := lensE_zero h
  obtain ⟨i, hi⟩ := List.mem_iff_getElem?.1 ho
  have hil := (List.getElem?_eq_some_iff.1 hi).1
  rw [lens_len] at hil
  rw [hl i hil] at hi
  cases hi
  by_cases hp : i ∈ posF F F.length
  · have := (hok.right.1 i hp).2
    omega
  · rw [hok.none i hp]
    decide
set_option maxRecDepth 100000 in
set_option maxHeartbeats 8000000 in
theorem cost_any (q : Option Addr) (c : Nat) (F : List Int) (most : Int) (hl : F.length ≤ 1000000000000000) :
    Ct Try.prog 8 [.slice q F.length c, .int .i64 most] [sl 1 (.slice q F.length c) (F.map fI)] fun v H' => v = .int .i64 (costC F most) ∧ H' = [] := by
  have LN := lens_any q c F most hl
  by_cases h : lensE F most = 0
  · have hc : costC F most = dotK F (lensL F most) F.length := by unfold costC; rw [if_pos h]
    have LN : Ct Try.prog 9 [.slice q F.length c, .int .i64 most] [sl 1 (.slice q F.length c) (F.map fI)] fun v H' => ∃ q' c', v = .tuple #[.slice q' F.length c', .int .i64 0] ∧ H' = [own (.slice q' F.length c') 3 1 F.length (flat fI (lensL F most))] := ct_imp LN fun v H' h2 => by
      rcases h2 with ⟨_, h3⟩ | ⟨h3, _⟩
      · exact h3
      · exact absurd h h3
    have CG := fun q' c' => cost_good q q' c c' F (lensL F most) F.length rfl (lens_len F most) (lensE_zero h).1 (lens_in h)
    have hll := (lens_len F most).symm
    rw [hc]
    clear h hc
    generalize lensL F most = O at *
    (refine spec_enter Try.func8 Try.ntmps8 rfl rfl fun Fr => ?_; dsimp only [List.cons_append, List.nil_append, ini, Nat.reduceAdd])
    (repeat' (first | (apply run_qg 1; (focus rfl); (focus exact wt); (focus rfl); (focus (exact qg1))) | refine cod_seq ?_ | refine cod_region ?_ | refine run_nil ?_ | refine pst_then ?_))
    (refine run_os wt rfl (opr_call_l rfl (LN) rfl (by exact lpa)) ?_; rintro _ _ ⟨_, ⟨q1, c1, rfl, rfl⟩, rfl⟩; dsimp only [List.cons_append, List.nil_append])
    (repeat' (first | (apply run_qg 1; (focus rfl); (focus exact wt); (focus rfl); (focus (exact qg1))) | (apply run_qg 4; (focus rfl); (focus exact wt); (focus rfl); (focus (first | exact qg4 | exact qs4))) | refine cod_seq ?_ | refine cod_region ?_ | refine run_nil ?_ | refine pst_then ?_ | (apply cod_cond_f; (focus rfl)) | refine cod_ret ?_ | refine cod_skip ?_ | (apply run_osg 7; (focus rfl); (focus exact wt); (focus rfl); (focus (exact opr_call_ls (by rfl) (CG ..) (by rfl) lpa)); (rintro _ _ ⟨rfl, rfl⟩))))
    exact pst_fin rfl (by exact resa) _ (⟨rfl, rfl⟩) (by exact hsa)
  · have hc : costC F most = -1 := by unfold costC; rw [if_neg h]
    have LN : Ct Try.prog 9 [.slice q F.length c, .int .i64 most] [sl 1 (.slice q F.length c) (F.map fI)] fun v H' => v = .tuple #[.slice none 0 0, .int .i64 (lensE F most)] ∧ H' = [] := ct_imp LN fun v H' h2 => by
      rcases h2 with ⟨h3, _⟩ | ⟨_, h3⟩
      · exact absurd h3 h
      · exact h3
    rw [hc]
    clear hc
    generalize lensE F most = e at *
    (refine spec_enter Try.func8 Try.ntmps8 rfl rfl fun Fr => ?_; dsimp only [List.cons_append, List.nil_append, ini, Nat.reduceAdd])
    (repeat' (first | (apply run_qg 1; (focus rfl); (focus exact wt); (focus rfl); (focus (exact qg1))) | (apply run_qg 4; (focus rfl); (focus exact wt); (focus rfl); (focus (first | exact qg4 | exact qs4))) | refine cod_seq ?_ | refine cod_region ?_ | refine run_nil ?_ | refine pst_then ?_ | (apply cod_cond_t; (focus rfl)) | refine cod_ret ?_ | refine pst_then_ret ?_ | (apply run_osg 7; (focus rfl); (focus exact wt); (focus rfl); (focus (exact opr_call_ls (by rfl) (LN ..) (by rfl) lpa)); (rintro _ _ ⟨rfl, rfl⟩))))
    exact pst_fin rfl (by exact resa) _ (⟨rfl, rfl⟩) (by exact hsa)
/-- the sum over all signs is that over those that come -/
theorem dot_pos {F : List Int} {O : List Int} {l : Nat → Nat} (hl : ∀ i, i < F.length → O[i]? = some (l i : Int)) (hp : ∀ f ∈ F, 0 ≤ f) : ∀ n, n ≤ F.length → dotK F O n = sumI (fun i => wF F i * (l i : Int)) (posF F n)
  | 0, _ => rfl
  | n + 1, h => by
    obtain ⟨f, hf⟩ : ∃ f, F[n]? = some f := ⟨_, List.getElem?_eq_getElem h⟩
    have e : wF F n = f := by unfold wF; rw [List.getD_eq_getElem?_getD, hf]; rfl
    have h0 := hp f (List.mem_of_getElem? hf)
    rw [dot_next hf (hl n h), dot_pos hl hp n (by omega)]
    by_cases hfp : 0 < wF F n
    · rw [pos_next_t hfp, sumI_app]
      simp only [sumI, e]
      omega
    · rw [pos_next_f hfp]
      have : f = 0 := by omega
      rw [this]
      omega
theorem cost_is {F : List Int} {most : Int} (h : lensE F most = 0) : ∃ l, LensOk F most.toNat l ∧ costC F most = costF F l ∧ 0 ≤ costF F l := by
  obtain ⟨l, hl, hok⟩ := lens_ok h
  have hg := (lensE_zero h).1
  refine ⟨l, hok, ?_, ?_⟩
  · unfold costC costF
    rw [if_pos h]
    exact dot_pos hl (fun f hf => (hg.2 f hf).1) _ (Nat.le_refl _)
  · unfold costF
    have : ∀ p : List Nat, (∀ i ∈ p, 0 < wF F i) → 0 ≤ sumI (fun i => wF F i * (l i : Int)) p := fun p => by
      induction p with
      | nil => intro _; exact Int.le_refl _
      | cons a p ih =>
        intro h2
        have h3 := h2 a List.mem_cons_self
        have h4 := ih fun i hi => h2 i (List.mem_cons_of_mem _ hi)
        have h5 : 0 ≤ wF F a * (l a : Int) := Int.mul_nonneg (by omega) (by omega)
        simp only [sumI]
        omega
    exact this _ fun i hi => (pos_mem.1 hi).2
end Go.Proofs.Ytppnaofebkpbkaa.huff
