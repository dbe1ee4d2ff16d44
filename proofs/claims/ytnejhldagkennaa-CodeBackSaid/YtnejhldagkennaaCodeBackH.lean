/-
  CodeBack: the contracts that the walk needs (printed by gen_codeback.py).
-/
import Derived.Test.YtnejhldagkennaaCodeLaw4
import Derived.Test.YtnejhldagkennaaPiecesCat
import Derived.Test.YtnejhldagkennaaOpen2
import Derived.Test.YtnejhldagkennaaRefBits
namespace Go.Proofs.Ytnejhldagkennaa.lawCodeBack
open Go.RowKit kit sl Go.Proofs.Ytnejhldagkennaa.code Go.Proofs.Ytnejhldagkennaa.lens Go.Proofs.Ytnejhldagkennaa.bits Go.Proofs.Ytnejhldagkennaa.pieces
set_option linter.unusedVariables false
theorem way0 : ∃ ps, writeV [1, 2, 2] [1, 0, 2] = (ps, 0) ∧ ps.length = 3 ∧ packErr ps = 0 ∧ packB ps = [25] ∧ ∀ p ∈ ps, (Lit.int .u64 p.1).wf = true ∧ (Lit.int .i64 p.2).wf = true := ⟨_, rfl, by decide +kernel, by decide +kernel, by decide +kernel, by decide +kernel⟩
theorem pack_ct (q : Option Addr) (c : Nat) (ps : List (Int × Int)) (hg : ∀ p ∈ ps, (Lit.int .u64 p.1).wf = true ∧ (Lit.int .i64 p.2).wf = true) (hn : ps.length ≤ 100000000000000000) {b : List UInt8} {e : Nat} (h0 : packErr ps = e) (hb : (if packErr ps = 0 then packB ps else []) = b) :
    Ct Try.prog 20 [.slice q ps.length c] [sl 2 (.slice q ps.length c) (ps.map fPc)] fun v H' => v = .tuple #[.string (str b), .int .i64 (e : Int)] ∧ H' = [] :=
  ct_of_calls fun w hw => (pack_any (.slice q ps.length c) ps w (hw.head : SliceAt w 2 _ (ps.map fPc)) hg hn).mono fun e w' ⟨h1, h2⟩ => ⟨by
    rw [h1, ← hb]
    unfold packS
    rw [← h0]
    by_cases h3 : packErr ps = 0
    · rw [if_pos h3, if_pos h3]
    · rw [if_neg h3, if_neg h3], h2⟩
theorem write_is {q qs : Option Addr} {c cs m : Nat} {l t : List Int} {ps : List (Int × Int)} {e : Int} (hg : ∀ x ∈ l, (Lit.int .i64 x).wf = true) (hn : l.length ≤ 1000000000000000) (ht : t.length = m) (hm : m ≤ 1024) (h : writeV l t = (ps, e)) :
    Ct Try.prog 19 [.slice q l.length c, .slice qs m cs] [sl 1 (.slice q l.length c) (l.map fI), sl 1 (.slice qs m cs) (t.map fI)]
      fun v H' => ∃ q2 c2, v = .tuple #[.slice q2 ps.length c2, .int .i64 e] ∧ H' = [own (.slice q2 ps.length c2) 49 2 ps.length (flat fPc ps)] := by
  subst ht
  have := write_any q qs c cs l t hg hn (by omega)
  rwa [h] at this
theorem read_is {q : Option Addr} {c : Nat} {l : List Int} {s : List UInt8} {k n : Nat} {r1 : List Int} {r2 : Nat} {r3 : Int} (hg : ∀ x ∈ l, (Lit.int .i64 x).wf = true) (hn : l.length ≤ 1000000000000000) (hs : s.length ≤ 140737488351232) (hk : k ≤ 8 * s.length) (hn2 : n ≤ 1024) (h : readV l s k n = (r1, r2, r3)) :
    Ct Try.prog 15 [.slice q l.length c, .string (str s), .int .i64 (k : Int), .int .i64 (n : Int)] [sl 1 (.slice q l.length c) (l.map fI)]
      fun v H' => ∃ q2 c2, v = .tuple #[.slice q2 r1.length c2, .int .i64 (r2 : Int), .int .i64 r3] ∧ H' = [own (.slice q2 r1.length c2) 3 1 r1.length (flat fI r1)] := by
  have := read_any q c l s k n hg hn hs hk hn2
  rwa [h] at this
attribute [local irreducible] box own sl old bptr eptr Qt Opr Run Cod Pst Drn
set_option maxRecDepth 100000 in
set_option maxHeartbeats 8000000 in
theorem equal_I (qa qb : Option Addr) (ca cb : Nat) (xs ys : List (Int)) (hn : xs.length ≤ maxLen) (hm : ys.length ≤ maxLen) :
    Ct Try.prog 16 [.slice qa xs.length ca, .slice qb ys.length cb] [sl 1 (.slice qa xs.length ca) (xs.map fI), sl 1 (.slice qb ys.length cb) (ys.map fI)] fun v H' => v = .bool (decide (xs = ys)) ∧ H' = [] := by
  unfold maxLen at hn hm
  by_cases hl : xs.length = ys.length
  · (refine spec_enter Try.func16 Try.ntmps16 rfl rfl fun Fr => ?_; dsimp only [List.cons_append, List.nil_append, ini, Nat.reduceAdd])
    (repeat' (first | (apply run_qg 1; (focus rfl); (focus exact wt); (focus rfl); (focus (exact qg1))) | (apply run_qg 4; (focus rfl); (focus exact wt); (focus rfl); (focus (first | exact qg4 | exact qs4))) | (apply run_qg 6; (focus rfl); (focus exact wt); (focus rfl); (focus (first | exact qs6 | exact qg6 | exact q_max rfl rfl rfl | exact q_sliceData rfl rfl (by omega) | exact q_sliceDataN rfl rfl | exact q_unsafeStringN rfl rfl rfl | exact q_cap_slice rfl rfl))) | refine cod_seq ?_ | refine cod_region ?_ | refine run_nil ?_ | refine pst_then ?_ | (apply cod_cond_f; (focus rfl)) | refine cod_block ?_ | refine cod_skip ?_))
    (refine cod_loop_ro (σ := Nat) (fun k => k ≤ xs.length ∧ xs.take k = ys.take k) (fun k => [(13, .int .i64 (k : Int))]) (fun k => xs.length - k) (0) (by simp) (by exact fsa) (fun k ⟨hk, ht⟩ => ?_); dsimp only [List.cons_append, List.nil_append])
    rcases get_or xs k with ⟨x, hx, hlt⟩ | hge
    · obtain ⟨y, hy⟩ : ∃ y, ys[k]? = some y := ⟨_, List.getElem?_eq_getElem (by omega)⟩
      by_cases hxy : x = y
      · (repeat' (first | (apply run_qg 1; (focus rfl); (focus exact wt); (focus rfl); (focus (exact qg1))) | (apply run_qg 4; (focus rfl); (focus exact wt); (focus rfl); (focus (first | exact qg4 | exact qs4))) | refine cod_seq ?_ | refine cod_region ?_ | refine run_nil ?_ | refine pst_then ?_ | (apply cod_cond_t; (focus rfl)) | (apply cod_cond_f; (focus rfl)) | refine cod_block ?_ | refine cod_skip ?_ | refine pst_block ?_ | (apply cod_drawn_k; (focus kernel_rfl); (focus (simp only [List.length_cons, List.length_nil, Nat.reduceAdd]; rfl))) | (apply drnK_take 1; (focus rfl); (focus rfl); (focus exact wt); (focus (decide +kernel)); (focus exact hsq); (focus rfl); (focus (exact qg1))) | (apply drnK_take 2; (focus rfl); (focus rfl); (focus exact wt); (focus (decide +kernel)); (focus exact hsq); (focus rfl); (focus (first | exact qg2 | exact qs2))) | (apply drnK_take 3; (focus rfl); (focus rfl); (focus exact wt); (focus (decide +kernel)); (focus exact hsq); (focus rfl); (focus (first | exact qg3 | exact qs3))) | (apply drnK_take 4; (focus rfl); (focus rfl); (focus exact wt); (focus (decide +kernel)); (focus exact hsq); (focus rfl); (focus (first | exact qg4 | exact qs4))) | (apply drnK_end; (focus (decide +kernel)))))
        refine pst_again (k + 1) ?_ (FSub.of (by (try dsimp only); exact fsa)) (by (try dsimp only); exact hsa) ?_
        · exact ⟨by omega, by rw [take_one hx, take_one hy, ht, hxy]⟩
        · show xs.length - (k + 1) < xs.length - k
          omega
      · (repeat' (first | (apply run_qg 1; (focus rfl); (focus exact wt); (focus rfl); (focus (exact qg1))) | (apply run_qg 4; (focus rfl); (focus exact wt); (focus rfl); (focus (first | exact qg4 | exact qs4))) | refine cod_seq ?_ | refine cod_region ?_ | refine run_nil ?_ | refine pst_then ?_ | (apply cod_cond_t; (focus rfl)) | refine cod_block ?_ | refine cod_ret ?_ | refine cod_skip ?_ | refine pst_block_ret ?_ | refine pst_then_ret ?_ | (apply cod_drawn_k; (focus kernel_rfl); (focus (simp only [List.length_cons, List.length_nil, Nat.reduceAdd]; rfl))) | (apply drnK_take 1; (focus rfl); (focus rfl); (focus exact wt); (focus (decide +kernel)); (focus exact hsq); (focus rfl); (focus (exact qg1))) | (apply drnK_take 2; (focus rfl); (focus rfl); (focus exact wt); (focus (decide +kernel)); (focus exact hsq); (focus rfl); (focus (first | exact qg2 | exact qs2))) | (apply drnK_take 3; (focus rfl); (focus rfl); (focus exact wt); (focus (decide +kernel)); (focus exact hsq); (focus rfl); (focus (first | exact qg3 | exact qs3))) | (apply drnK_take 4; (focus rfl); (focus rfl); (focus exact wt); (focus (decide +kernel)); (focus exact hsq); (focus rfl); (focus (first | exact qg4 | exact qs4))) | (apply drnK_end; (focus (decide +kernel)))))
        have hd : decide (xs = ys) = false := by
          rw [decide_eq_false_iff_not]
          intro e
          rw [e, hy] at hx
          exact hxy (Option.some.inj hx).symm
        exact pst_fin rfl (by exact resa) _ (⟨by rw [hd], rfl⟩) (by exact hsa)
    · (repeat' (first | (apply run_qg 1; (focus rfl); (focus exact wt); (focus rfl); (focus (exact qg1))) | (apply run_qg 4; (focus rfl); (focus exact wt); (focus rfl); (focus (first | exact qg4 | exact qs4))) | refine cod_seq ?_ | refine cod_region ?_ | refine run_nil ?_ | refine pst_then ?_ | (apply cod_cond_f; (focus rfl)) | refine cod_exit ?_ | refine cod_ret ?_ | refine pst_block_here ?_ | refine pst_then_exit ?_))
      have hd : decide (xs = ys) = true := by
        rw [decide_eq_true_iff]
        rwa [List.take_of_length_le hge, List.take_of_length_le (by omega)] at ht
      exact pst_fin rfl (by exact resa) _ (⟨by rw [hd], rfl⟩) (by exact hsa)
  · have hd : decide (xs = ys) = false := by
      rw [decide_eq_false_iff_not]
      intro e
      rw [e] at hl
      exact hl rfl
    (refine spec_enter Try.func16 Try.ntmps16 rfl rfl fun Fr => ?_; dsimp only [List.cons_append, List.nil_append, ini, Nat.reduceAdd])
    (repeat' (first | (apply run_qg 1; (focus rfl); (focus exact wt); (focus rfl); (focus (exact qg1))) | (apply run_qg 4; (focus rfl); (focus exact wt); (focus rfl); (focus (first | exact qg4 | exact qs4))) | (apply run_qg 6; (focus rfl); (focus exact wt); (focus rfl); (focus (first | exact qs6 | exact qg6 | exact q_max rfl rfl rfl | exact q_sliceData rfl rfl (by omega) | exact q_sliceDataN rfl rfl | exact q_unsafeStringN rfl rfl rfl | exact q_cap_slice rfl rfl))) | refine cod_seq ?_ | refine cod_region ?_ | refine run_nil ?_ | refine pst_then ?_ | (apply cod_cond_t; (focus rfl)) | refine cod_ret ?_ | refine pst_then_ret ?_))
    exact pst_fin rfl (by exact resa) _ (⟨by rw [hd], rfl⟩) (by exact hsa)

theorem equal_m (qa qb : Option Addr) (ca cb : Nat) {t : List Int} {m : Nat} (h : t.length = m) (hm : m ≤ maxLen) :
    Ct Try.prog 16 [.slice qa t.length ca, .slice qb m cb] [sl 1 (.slice qa t.length ca) (t.map fI), sl 1 (.slice qb m cb) (t.map fI)] fun v H' => v = .bool true ∧ H' = [] := by
  subst h
  exact ct_true (equal_I qa qb ca cb t t hm hm) rfl
end Go.Proofs.Ytnejhldagkennaa.lawCodeBack

