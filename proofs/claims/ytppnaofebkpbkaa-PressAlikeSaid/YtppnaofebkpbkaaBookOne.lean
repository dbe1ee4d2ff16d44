/-
  (*code.Book).longer, (*code.Book).One: the walks.
-/
import Derived.Test.YtppnaofebkpbkaaBookMake
namespace Go.Proofs.Ytppnaofebkpbkaa.code
open Go.RowKit kit sl lens
set_option linter.unusedVariables false
attribute [local irreducible] bkC
theorem and1_fin : ∀ n : Fin 256, bits BinOp.and IntKind.u8 ((n.val : Nat) : Int) 1 = ((n.val % 2 : Nat) : Int) := by decide +kernel
theorem or1 (K b : Nat) (hK : K < 1099511627776) (hb : b < 2) : bits BinOp.or IntKind.i64 ((K : Int) * 2) (b : Int) = ((K * 2 + b : Nat) : Int) := by
  have e : bits BinOp.or IntKind.i64 ((K : Int) * 2) (b : Int) = wrap64 (((BitVec.ofInt 64 ((K : Int) * 2) ||| BitVec.ofInt 64 (b : Int)).toNat : Nat) : Int) := IntWalk.i64_left _
  have e2 : (BitVec.ofInt 64 ((K : Int) * 2) ||| BitVec.ofInt 64 (b : Int)).toNat = K * 2 + b := by
    rw [BitVec.toNat_or, show ((K : Int) * 2) = ((K * 2 : Nat) : Int) by omega, ofInt_u64 (K * 2) (by omega), ofInt_u64 b (by omega)]
    exact nat_join 1 (K * 2) b (by omega) (by omega)
  rw [e, e2, IntWalk.wrap64_in _ (by omega)]
/-- a code of v bits begins with the w bits c -/
def lonT (A C : Nat → Int) (c w v : Nat) : Prop := 0 < C v ∧ ((c * 2 ^ (v - w) : Nat) : Int) < A v + C v ∧ A v < ((c * 2 ^ (v - w) : Nat) : Int) + ((2 ^ (v - w) : Nat) : Int)
instance (A C : Nat → Int) (c w v : Nat) : Decidable (lonT A C c w v) := by unfold lonT; infer_instance
def lonB (A C : Nat → Int) (c w : Nat) : Bool := (List.range 16).any fun v => decide (w ≤ v ∧ lonT A C c w v)
theorem lonB_iff (A C : Nat → Int) (c w : Nat) : lonB A C c w = true ↔ ∃ v, v < 16 ∧ w ≤ v ∧ lonT A C c w v := by
  unfold lonB
  simp [List.any_eq_true]
attribute [local irreducible] box own sl old bptr eptr Qt Opr Run Cod Pst Drn
set_option maxRecDepth 100000 in
set_option maxHeartbeats 8000000 in
theorem longer_any (b : Nat) (q : Value) (A R C : Nat → Int) (c w : Nat) (hA : ∀ v, v < 16 → 0 ≤ A v ∧ A v ≤ 100000000) (hC : ∀ v, v < 16 → 0 ≤ C v ∧ C v ≤ 100000000) (hc : c ≤ 65536) (hw : w ≤ 15) :
    Ct Try.prog 72 [bptr b 0, .int .i64 (c : Int), .int .i64 (w : Int)] [box b (bkC q A R C) 98] fun v H' => v = .bool (lonB A C c w) ∧ H' = [box b (bkC q A R C) 98] := by
  (refine spec_enter Try.func72 Try.ntmps72 rfl rfl fun Fr => ?_; dsimp only [List.cons_append, List.nil_append, ini, Nat.reduceAdd])
  (repeat' (first | (apply run_qg 1; (focus rfl); (focus exact wt); (focus rfl); (focus (exact qg1))) | refine cod_seq ?_ | refine cod_region ?_ | refine run_nil ?_ | refine pst_then ?_ | refine cod_block ?_))
  (refine cod_loop_ro (σ := Nat) (fun v => w ≤ v ∧ v ≤ 16 ∧ ∀ u, w ≤ u → u < v → ¬ lonT A C c w u) (fun v => [(7, .int .i64 (v : Int))]) (fun v => 16 - v) (w) (by exact ⟨Nat.le_refl _, by omega, fun u h1 h2 => absurd h1 (by omega)⟩) (by exact fsa) (fun v ⟨hv1, hv2, hno⟩ => ?_); dsimp only [List.cons_append, List.nil_append])
  rcases Nat.lt_or_ge v 16 with hlt | hge
  · have hj : (v : Int) - (w : Int) = ((v - w : Nat) : Int) := by omega
    obtain ⟨a1, a2⟩ := hA v hlt
    obtain ⟨c1, c2⟩ := hC v hlt
    have hp : 2 ^ (v - w) ≤ 2 ^ 15 := Nat.pow_le_pow_right (by decide) (by omega)
    have hT : lonT A C c w v ↔ 0 < C v ∧ ((c * 2 ^ (v - w) : Nat) : Int) < A v + C v ∧ A v < ((c * 2 ^ (v - w) : Nat) : Int) + ((2 ^ (v - w) : Nat) : Int) := Iff.rfl
    obtain ⟨p2, hp2⟩ : ∃ p2, 2 ^ (v - w) = p2 := ⟨_, rfl⟩
    have h2i : (2 : Int) ^ (v - w) = (p2 : Int) := by rw [← hp2]; push_cast; rfl
    rw [hp2] at hT hp
    have hlo : c * p2 ≤ 65536 * 32768 := Nat.mul_le_mul hc hp
    have hr1 : IntKind.i64.wrap ((c : Int) * 2 ^ (v - w)) = ((c * p2 : Nat) : Int) := by
      rw [h2i, show (c : Int) * (p2 : Int) = ((c * p2 : Nat) : Int) by push_cast; rfl]
      generalize c * p2 = z at *
      exact wr_i64 (by omega)
    have hr2 : IntKind.i64.wrap ((1 : Int) * 2 ^ (v - w)) = (p2 : Int) := by
      rw [h2i, Int.one_mul]
      exact wr_i64 (by omega)
    generalize c * p2 = lo at *
    clear h2i
    (repeat' (first | (apply run_qg 4; (focus rfl); (focus exact wt); (focus rfl); (focus (first | exact q_shln rfl rfl rfl (by assumption) (by omega) (by assumption) | exact q_shrn rfl rfl rfl (by assumption) (by omega) (by assumption)))) | (apply drnK_take 2; (focus rfl); (focus rfl); (focus exact wt); (focus (decide +kernel)); (focus exact hsq); (focus rfl); (focus (exact q_load_at rfl rfl (by exact pka) (by first | assumption | exact bk_q .. | exact bk_A (by omega) | exact bk_R (by omega) | exact bk_C (by omega))))) | (apply drnK_take 3; (focus rfl); (focus rfl); (focus exact wt); (focus (decide +kernel)); (focus exact hsq); (focus rfl); (focus (exact q_index_box rfl rfl rfl (by first | assumption | rfl | omega) (by omega) (by rfl)))) | (apply drnK_take 4; (focus rfl); (focus rfl); (focus exact wt); (focus (decide +kernel)); (focus exact hsq); (focus rfl); (focus (first | exact q_shln rfl rfl rfl (by assumption) (by omega) (by assumption) | exact q_shrn rfl rfl rfl (by assumption) (by omega) (by assumption)))) | (apply run_qg 1; (focus rfl); (focus exact wt); (focus rfl); (focus (exact qg1))) | (apply run_qg 4; (focus rfl); (focus exact wt); (focus rfl); (focus (first | exact qg4 | exact qs4))) | refine cod_seq ?_ | refine cod_region ?_ | refine run_nil ?_ | refine pst_then ?_ | (apply cod_cond_t; (focus rfl)) | (apply cod_cond_f; (focus rfl)) | refine cod_block ?_ | refine cod_ret ?_ | refine cod_skip ?_ | refine pst_block_ret ?_ | refine pst_then_ret ?_ | refine pst_block ?_ | (apply cod_drawn_k; (focus kernel_rfl); (focus (simp only [List.length_cons, List.length_nil, Nat.reduceAdd]; rfl))) | (apply drnK_take 1; (focus rfl); (focus rfl); (focus exact wt); (focus (decide +kernel)); (focus exact hsq); (focus rfl); (focus (exact qg1))) | (apply drnK_take 3; (focus rfl); (focus rfl); (focus exact wt); (focus (decide +kernel)); (focus exact hsq); (focus rfl); (focus (first | exact qg3 | exact qs3))) | (apply drnK_take 4; (focus rfl); (focus rfl); (focus exact wt); (focus (decide +kernel)); (focus exact hsq); (focus rfl); (focus (first | exact qg4 | exact qs4))) | (apply drnK_off; (focus rfl); (focus rfl); (focus rfl); (focus (decide +kernel)); (focus exact hsq); (focus rfl)) | (apply drnK_end; (focus (decide +kernel))) | (apply drnK_lss; (focus rfl); (focus rfl); (focus rfl); (focus exact wt); (focus (decide +kernel)); (focus exact hsq); (focus rfl); (all_goals (intro h))) | (apply drnK_gtr; (focus rfl); (focus rfl); (focus rfl); (focus exact wt); (focus (decide +kernel)); (focus exact hsq); (focus rfl); (all_goals (intro h)))))
    all_goals first
      | (have e : lonB A C c w = true := (lonB_iff A C c w).2 ⟨v, hlt, hv1, hT.2 ⟨by omega, by omega, by omega⟩⟩
         rw [e]
         exact pst_fin rfl (by exact resa) _ (⟨rfl, rfl⟩) (by exact hsa))
      | (refine pst_again (v + 1) ?_ (FSub.of (by (try dsimp only); exact fsa)) (by (try dsimp only); exact hsa) ?_
         · refine ⟨by omega, by omega, fun u h1 h2 => ?_⟩
           rcases Nat.lt_or_ge u v with h3 | h3
           · exact hno u h1 h3
           · have h4 : u = v := by omega
             subst h4
             rw [hT]
             rintro ⟨_, _, _⟩
             omega
         · omega)
  · have hv : v = 16 := by omega
    subst hv
    have e : lonB A C c w = false := by
      rw [Bool.eq_false_iff, Ne, lonB_iff]
      rintro ⟨u, h1, h2, h3⟩
      exact hno u h2 h1 h3
    rw [e]
    (repeat' (first | (apply run_qg 1; (focus rfl); (focus exact wt); (focus rfl); (focus (exact qg1))) | (apply run_qg 4; (focus rfl); (focus exact wt); (focus rfl); (focus (first | exact qg4 | exact qs4))) | refine cod_seq ?_ | refine cod_region ?_ | refine run_nil ?_ | refine pst_then ?_ | (apply cod_cond_f; (focus rfl)) | refine cod_exit ?_ | refine cod_ret ?_ | refine pst_block_here ?_ | refine pst_then_exit ?_))
    exact pst_fin rfl (by exact resa) _ (⟨rfl, rfl⟩) (by exact hsa)
theorem lonB_end {A C : Nat → Int} {c : Nat} (h : ¬ (A 15 ≤ (c : Int) ∧ (c : Int) < A 15 + C 15)) : lonB A C c 15 = false := by
  rw [Bool.eq_false_iff, Ne, lonB_iff]
  rintro ⟨v, h1, h2, h3⟩
  have hv : v = 15 := by omega
  subst hv
  unfold lonT at h3
  rw [Nat.sub_self, Nat.pow_zero, Nat.mul_one] at h3
  omega
/-- bit k of a text -/
def bitS (s : List UInt8) (k : Nat) : Nat := (s.getD (k / 8) 0).toNat / 2 ^ (k % 8) % 2
/-- one sign, from a place on; the fuel, the bits that are read, their number -/
def oneF (A R C : Nat → Int) (sg : List Int) (s : List UInt8) : Nat → Nat → Nat → Nat → Int × Nat × Int
  | 0, _, _, _ => (0, 0, 7)
  | k + 1, w, c, at' => if 0 < w ∧ A w ≤ (c : Int) ∧ (c : Int) < A w + C w then (sg.getD (R w + c - A w).toNat 0, at', 0)
    else if lonB A C c w = false then (0, 0, 7)
    else if 8 * s.length ≤ at' then (0, 0, 3)
    else oneF A R C sg s k (w + 1) (c * 2 + bitS s at') (at' + 1)
set_option maxRecDepth 100000 in
set_option maxHeartbeats 8000000 in
theorem one_any (b : Nat) (q : Option Addr) (c : Nat) (sg : List Int) (A R C : Nat → Int) (s : List UInt8) (at' : Nat) (hA : ∀ v, v < 16 → 0 ≤ A v ∧ A v ≤ 100000000) (hC : ∀ v, v < 16 → 0 ≤ C v ∧ C v ≤ 100000000) (hR : ∀ v, v < 16 → 0 ≤ R v ∧ R v + C v ≤ (sg.length : Int)) (hsg : sg.length ≤ 100000000) (hs : s.length ≤ 140737488351232) (hat : at' ≤ 8 * s.length) :
    Ct Try.prog 52 [bptr b 0, .string (str s), .int .i64 (at' : Int)] [box b (bkC (.slice q sg.length c) A R C) 98, sl 1 (.slice q sg.length c) (sg.map fI)]
      fun v H' => v = .tuple #[.int .i64 (oneF A R C sg s 16 0 0 at').1, .int .i64 ((oneF A R C sg s 16 0 0 at').2.1 : Int), .int .i64 (oneF A R C sg s 16 0 0 at').2.2] ∧ H' = [box b (bkC (.slice q sg.length c) A R C) 98] := by
  generalize hr : oneF A R C sg s 16 0 0 at' = r
  obtain ⟨r1, r2, r3⟩ := r
  (refine spec_enter Try.func52 Try.ntmps52 rfl rfl fun Fr => ?_; dsimp only [List.cons_append, List.nil_append, ini, Nat.reduceAdd])
  (repeat' (first | (apply run_qg 1; (focus rfl); (focus exact wt); (focus rfl); (focus (exact qg1))) | refine cod_seq ?_ | refine cod_region ?_ | refine run_nil ?_ | refine pst_then ?_ | refine cod_block ?_))
  (refine cod_loop_rw (σ := Nat × Nat × Nat) (fun x => x.1 ≤ 15 ∧ x.2.1 < 2 ^ x.1 ∧ x.2.2 ≤ 8 * s.length ∧ oneF A R C sg s (16 - x.1) x.1 x.2.1 x.2.2 = (r1, r2, r3)) (fun x => [(10, .int .i64 (x.1 : Int)), (9, .int .i64 (x.2.1 : Int)), (2, .int .i64 (x.2.2 : Int))]) (fun x => [box b (bkC (.slice q sg.length c) A R C) 98]) _ (fun x => 15 - x.1) ((0, 0, at')) (by exact ⟨Nat.zero_le _, Nat.zero_lt_one, hat, hr⟩) (by exact fsa) (by (first | exact HSub.of_picks_rest (by exact pca))) (fun ⟨w, cc, k⟩ ⟨hw, hcc, hk, hone⟩ => ?_); dsimp only [List.cons_append, List.nil_append])
  dsimp only at hw hcc hk hone ⊢
  have hf : 16 - w = (15 - w) + 1 := by omega
  rw [hf, oneF] at hone
  have hp : 2 ^ w ≤ 2 ^ 15 := Nat.pow_le_pow_right (by decide) hw
  obtain ⟨a1, a2⟩ := hA w (by omega)
  obtain ⟨c1, c2⟩ := hC w (by omega)
  obtain ⟨d1, d2⟩ := hR w (by omega)
  have L0 := longer_any b (.slice q sg.length c) A R C cc w hA hC (by omega) hw
  by_cases h1 : 0 < w ∧ A w ≤ (cc : Int) ∧ (cc : Int) < A w + C w
  · rw [if_pos h1] at hone
    obtain ⟨g1, g2, g3⟩ := h1
    cases hone
    obtain ⟨j, hj⟩ : ∃ j : Nat, R w + cc - A w = (j : Int) := ⟨(R w + cc - A w).toNat, by omega⟩
    have hjl : j < sg.length := by omega
    obtain ⟨x, hx⟩ : ∃ x, sg[j]? = some x := ⟨_, List.getElem?_eq_getElem hjl⟩
    have hxx : sg.getD (R w + cc - A w).toNat 0 = x := by rw [hj, Int.toNat_natCast, List.getD_eq_getElem?_getD, hx]; rfl
    rw [hxx]
    (repeat' (first | (apply drnK_take 2; (focus rfl); (focus rfl); (focus exact wt); (focus (decide +kernel)); (focus exact hsq); (focus rfl); (focus (exact q_load_at rfl rfl (by exact pka) (by first | assumption | exact bk_q .. | exact bk_A (by omega) | exact bk_R (by omega) | exact bk_C (by omega))))) | (apply drnK_take 3; (focus rfl); (focus rfl); (focus exact wt); (focus (decide +kernel)); (focus exact hsq); (focus rfl); (focus (exact q_index_box rfl rfl rfl (by first | assumption | rfl | omega) (by omega) (by rfl)))) | refine cod_seq ?_ | refine pst_then ?_ | (apply cod_cond_t; (focus rfl)) | refine cod_block ?_ | (apply cod_drawn_k; (focus kernel_rfl); (focus (simp only [List.length_cons, List.length_nil, Nat.reduceAdd]; rfl))) | (apply drnK_take 1; (focus rfl); (focus rfl); (focus exact wt); (focus (decide +kernel)); (focus exact hsq); (focus rfl); (focus (exact qg1))) | (apply drnK_take 3; (focus rfl); (focus rfl); (focus exact wt); (focus (decide +kernel)); (focus exact hsq); (focus rfl); (focus (first | exact qg3 | exact qs3))) | (apply drnK_take 4; (focus rfl); (focus rfl); (focus exact wt); (focus (decide +kernel)); (focus exact hsq); (focus rfl); (focus (first | exact qg4 | exact qs4))) | (apply drnK_end; (focus (decide +kernel))) | (apply drnK_done; (focus (decide +kernel))) | (apply drnK_skip; (focus rfl)) | (apply drnK_wrap; (focus rfl))))
    (refine drnK_at 19 ?_; refine drnK_take _ rfl rfl wt (by decide +kernel) hsq rfl (q_index_sl (i := j) rfl rfl rfl pka hj (by simp only [List.length_map]; omega)) ?_)
    (repeat' (first | refine pst_then ?_ | refine cod_ret ?_ | refine pst_block_ret ?_ | refine pst_then_ret ?_ | (apply drnK_take 1; (focus rfl); (focus rfl); (focus exact wt); (focus (decide +kernel)); (focus exact hsq); (focus rfl); (focus (exact qg1))) | (apply drnK_take 2; (focus rfl); (focus rfl); (focus exact wt); (focus (decide +kernel)); (focus exact hsq); (focus rfl); (focus (first | exact qg2 | exact qs2))) | (apply drnK_end; (focus (decide +kernel))) | (apply drnK_done; (focus (decide +kernel)))))
    exact pst_fin rfl (by exact resa) _ (⟨rfl, rfl⟩) (by exact hsa)
  · rw [if_neg h1] at hone
    by_cases h2 : lonB A C cc w = false
    · rw [if_pos h2] at hone
      cases hone
      rw [h2] at L0
      (repeat' (first | (apply drnK_take 2; (focus rfl); (focus rfl); (focus exact wt); (focus (decide +kernel)); (focus exact hsq); (focus rfl); (focus (exact q_load_at rfl rfl (by exact pka) (by first | assumption | exact bk_q .. | exact bk_A (by omega) | exact bk_R (by omega) | exact bk_C (by omega))))) | (apply drnK_take 3; (focus rfl); (focus rfl); (focus exact wt); (focus (decide +kernel)); (focus exact hsq); (focus rfl); (focus (exact q_index_box rfl rfl rfl (by first | assumption | rfl | omega) (by omega) (by rfl)))) | (apply run_qg 1; (focus rfl); (focus exact wt); (focus rfl); (focus (exact qg1))) | refine cod_seq ?_ | refine cod_region ?_ | refine pst_then ?_ | (apply cod_cond_f; (focus rfl)) | refine cod_block ?_ | refine cod_skip ?_ | (apply cod_drawn_k; (focus kernel_rfl); (focus (simp only [List.length_cons, List.length_nil, Nat.reduceAdd]; rfl))) | (apply drnK_take 1; (focus rfl); (focus rfl); (focus exact wt); (focus (decide +kernel)); (focus exact hsq); (focus rfl); (focus (exact qg1))) | (apply drnK_take 3; (focus rfl); (focus rfl); (focus exact wt); (focus (decide +kernel)); (focus exact hsq); (focus rfl); (focus (first | exact qg3 | exact qs3))) | (apply drnK_take 4; (focus rfl); (focus rfl); (focus exact wt); (focus (decide +kernel)); (focus exact hsq); (focus rfl); (focus (first | exact qg4 | exact qs4))) | (apply drnK_off; (focus rfl); (focus rfl); (focus rfl); (focus (decide +kernel)); (focus exact hsq); (focus rfl)) | (apply drnK_end; (focus (decide +kernel))) | (apply drnK_gtr; (focus rfl); (focus rfl); (focus rfl); (focus exact wt); (focus (decide +kernel)); (focus exact hsq); (focus rfl); (all_goals (intro h))) | (apply drnK_geq; (focus rfl); (focus rfl); (focus rfl); (focus exact wt); (focus (decide +kernel)); (focus exact hsq); (focus rfl); (all_goals (intro h)))))
      all_goals ((refine run_os wt rfl (opr_call_l rfl (L0) rfl (by exact lpa)) ?_; rintro _ _ ⟨_, ⟨rfl, rfl⟩, rfl⟩; dsimp only [List.cons_append, List.nil_append]))
      all_goals ((repeat' (first | (apply run_qg 1; (focus rfl); (focus exact wt); (focus rfl); (focus (exact qg1))) | (apply run_qg 4; (focus rfl); (focus exact wt); (focus rfl); (focus (first | exact qg4 | exact qs4))) | refine cod_seq ?_ | refine cod_region ?_ | refine run_nil ?_ | refine pst_then ?_ | (apply cod_cond_t; (focus rfl)) | refine cod_ret ?_ | refine pst_block_ret ?_ | refine pst_then_ret ?_)))
      all_goals (exact pst_fin rfl (by exact resa) _ (⟨rfl, rfl⟩) (by exact hsa))
    · rw [if_neg h2] at hone
      have h2' : lonB A C cc w = true := by simpa using h2
      rw [h2'] at L0
      have hw14 : w ≤ 14 := by
        rcases Nat.lt_or_ge w 15 with h | h
        · omega
        · have hw15 : w = 15 := by omega
          subst hw15
          rw [lonB_end fun h => h1 ⟨by omega, h⟩] at h2'
          cases h2'
      by_cases h3 : 8 * s.length ≤ k
      · rw [if_pos h3] at hone
        cases hone
        (repeat' (first | (apply drnK_take 2; (focus rfl); (focus rfl); (focus exact wt); (focus (decide +kernel)); (focus exact hsq); (focus rfl); (focus (exact q_load_at rfl rfl (by exact pka) (by first | assumption | exact bk_q .. | exact bk_A (by omega) | exact bk_R (by omega) | exact bk_C (by omega))))) | (apply drnK_take 3; (focus rfl); (focus rfl); (focus exact wt); (focus (decide +kernel)); (focus exact hsq); (focus rfl); (focus (exact q_index_box rfl rfl rfl (by first | assumption | rfl | omega) (by omega) (by rfl)))) | (apply run_qg 1; (focus rfl); (focus exact wt); (focus rfl); (focus (exact qg1))) | refine cod_seq ?_ | refine cod_region ?_ | refine pst_then ?_ | (apply cod_cond_f; (focus rfl)) | refine cod_block ?_ | refine cod_skip ?_ | (apply cod_drawn_k; (focus kernel_rfl); (focus (simp only [List.length_cons, List.length_nil, Nat.reduceAdd]; rfl))) | (apply drnK_take 1; (focus rfl); (focus rfl); (focus exact wt); (focus (decide +kernel)); (focus exact hsq); (focus rfl); (focus (exact qg1))) | (apply drnK_take 3; (focus rfl); (focus rfl); (focus exact wt); (focus (decide +kernel)); (focus exact hsq); (focus rfl); (focus (first | exact qg3 | exact qs3))) | (apply drnK_take 4; (focus rfl); (focus rfl); (focus exact wt); (focus (decide +kernel)); (focus exact hsq); (focus rfl); (focus (first | exact qg4 | exact qs4))) | (apply drnK_off; (focus rfl); (focus rfl); (focus rfl); (focus (decide +kernel)); (focus exact hsq); (focus rfl)) | (apply drnK_end; (focus (decide +kernel))) | (apply drnK_gtr; (focus rfl); (focus rfl); (focus rfl); (focus exact wt); (focus (decide +kernel)); (focus exact hsq); (focus rfl); (all_goals (intro h))) | (apply drnK_geq; (focus rfl); (focus rfl); (focus rfl); (focus exact wt); (focus (decide +kernel)); (focus exact hsq); (focus rfl); (all_goals (intro h)))))
        all_goals ((refine run_os wt rfl (opr_call_l rfl (L0) rfl (by exact lpa)) ?_; rintro _ _ ⟨_, ⟨rfl, rfl⟩, rfl⟩; dsimp only [List.cons_append, List.nil_append]))
        all_goals ((repeat' (first | (apply run_qg 1; (focus rfl); (focus exact wt); (focus rfl); (focus (exact qg1))) | (apply run_qg 4; (focus rfl); (focus exact wt); (focus rfl); (focus (first | exact qg4 | exact qs4))) | (apply run_qg 6; (focus rfl); (focus exact wt); (focus rfl); (focus (first | exact qs6 | exact qg6 | exact q_max rfl rfl rfl | exact q_sliceData rfl rfl (by omega) | exact q_sliceDataN rfl rfl | exact q_unsafeStringN rfl rfl rfl | exact q_cap_slice rfl rfl))) | refine cod_seq ?_ | refine cod_region ?_ | refine run_nil ?_ | refine pst_then ?_ | (apply cod_cond_t; (focus rfl)) | (apply cod_cond_f; (focus rfl)) | refine cod_ret ?_ | refine cod_skip ?_ | refine pst_block_ret ?_ | refine pst_then_ret ?_)))
        all_goals (exact pst_fin rfl (by exact resa) _ (⟨rfl, rfl⟩) (by exact hsa))
      · rw [if_neg h3] at hone
        obtain ⟨y, hy⟩ : ∃ y, s[k / 8]? = some y := ⟨_, List.getElem?_eq_getElem (by omega)⟩
        have hbit : bitS s k = y.toNat / 2 ^ (k % 8) % 2 := by unfold bitS; rw [List.getD_eq_getElem?_getD, hy]; rfl
        rw [hbit] at hone
        have hy8 := UInt8.toNat_lt y
        have hq8 : (k : Int) / 8 = ((k / 8 : Nat) : Int) := by omega
        have hr8 : (k : Int) % 8 = ((k % 8 : Nat) : Int) := by omega
        have hm8 : k % 8 < 8 := Nat.mod_lt _ (by decide)
        obtain ⟨z, hz⟩ : ∃ z, y.toNat / 2 ^ (k % 8) = z := ⟨_, rfl⟩
        have hz256 : z < 256 := by
          rw [← hz]
          exact Nat.lt_of_le_of_lt (Nat.div_le_self _ _) hy8
        have hshr : (y.toNat : Int) / 2 ^ (k % 8) = (z : Int) := by rw [← hz]; push_cast; rfl
        have hand : bits BinOp.and IntKind.u8 (z : Int) 1 = ((z % 2 : Nat) : Int) := and1_fin ⟨z, hz256⟩
        rw [hz] at hone
        have hb2 : z % 2 < 2 := Nat.mod_lt _ (by decide)
        generalize z % 2 = t at *
        have hor := or1 cc t (by omega) hb2
        have hcc2 : cc * 2 + t < 2 ^ (w + 1) := by rw [Nat.pow_succ]; omega
        (repeat' (first | (apply drnK_take 2; (focus rfl); (focus rfl); (focus exact wt); (focus (decide +kernel)); (focus exact hsq); (focus rfl); (focus (exact q_load_at rfl rfl (by exact pka) (by first | assumption | exact bk_q .. | exact bk_A (by omega) | exact bk_R (by omega) | exact bk_C (by omega))))) | (apply drnK_take 3; (focus rfl); (focus rfl); (focus exact wt); (focus (decide +kernel)); (focus exact hsq); (focus rfl); (focus (exact q_index_box rfl rfl rfl (by first | assumption | rfl | omega) (by omega) (by rfl)))) | (apply run_qg 1; (focus rfl); (focus exact wt); (focus rfl); (focus (exact qg1))) | refine cod_seq ?_ | refine cod_region ?_ | refine pst_then ?_ | (apply cod_cond_f; (focus rfl)) | refine cod_block ?_ | refine cod_skip ?_ | (apply cod_drawn_k; (focus kernel_rfl); (focus (simp only [List.length_cons, List.length_nil, Nat.reduceAdd]; rfl))) | (apply drnK_take 1; (focus rfl); (focus rfl); (focus exact wt); (focus (decide +kernel)); (focus exact hsq); (focus rfl); (focus (exact qg1))) | (apply drnK_take 3; (focus rfl); (focus rfl); (focus exact wt); (focus (decide +kernel)); (focus exact hsq); (focus rfl); (focus (first | exact qg3 | exact qs3))) | (apply drnK_take 4; (focus rfl); (focus rfl); (focus exact wt); (focus (decide +kernel)); (focus exact hsq); (focus rfl); (focus (first | exact qg4 | exact qs4))) | (apply drnK_off; (focus rfl); (focus rfl); (focus rfl); (focus (decide +kernel)); (focus exact hsq); (focus rfl)) | (apply drnK_end; (focus (decide +kernel))) | (apply drnK_gtr; (focus rfl); (focus rfl); (focus rfl); (focus exact wt); (focus (decide +kernel)); (focus exact hsq); (focus rfl); (all_goals (intro h))) | (apply drnK_geq; (focus rfl); (focus rfl); (focus rfl); (focus exact wt); (focus (decide +kernel)); (focus exact hsq); (focus rfl); (all_goals (intro h)))))
        all_goals ((refine run_os wt rfl (opr_call_l rfl (L0) rfl (by exact lpa)) ?_; rintro _ _ ⟨_, ⟨rfl, rfl⟩, rfl⟩; dsimp only [List.cons_append, List.nil_append]))
        all_goals ((repeat' (first | (apply run_qg 4; (focus rfl); (focus exact wt); (focus rfl); (focus (first | exact q_shln rfl rfl rfl (by assumption) (by omega) (by assumption) | exact q_shrn rfl rfl rfl (by assumption) (by omega) (by assumption)))) | (apply run_qg 1; (focus rfl); (focus exact wt); (focus rfl); (focus (exact qg1))) | (apply run_qg 3; (focus rfl); (focus exact wt); (focus rfl); (focus (first | exact qg3 | exact qs3))) | (apply run_qg 4; (focus rfl); (focus exact wt); (focus rfl); (focus (first | exact qg4 | exact qs4))) | (apply run_qg 6; (focus rfl); (focus exact wt); (focus rfl); (focus (first | exact qs6 | exact qg6 | exact q_max rfl rfl rfl | exact q_sliceData rfl rfl (by omega) | exact q_sliceDataN rfl rfl | exact q_unsafeStringN rfl rfl rfl | exact q_cap_slice rfl rfl))) | (apply run_qg 11; (focus rfl); (focus exact wt); (focus rfl); (focus (exact qs11))) | refine cod_seq ?_ | refine cod_region ?_ | refine run_nil ?_ | refine pst_then ?_ | (apply cod_cond_f; (focus rfl)) | refine cod_skip ?_ | refine pst_block ?_)))
        all_goals (refine pst_again ((w + 1, cc * 2 + t, k + 1)) ?_ (FSub.of (by (try dsimp only); exact fsa)) (by (try dsimp only); exact hsa) ?_)
        all_goals first
          | exact ⟨by dsimp only; omega, hcc2, by dsimp only; omega, by dsimp only; rw [show 16 - (w + 1) = 15 - w by omega]; exact hone⟩
          | (dsimp only; omega)
end Go.Proofs.Ytppnaofebkpbkaa.code
