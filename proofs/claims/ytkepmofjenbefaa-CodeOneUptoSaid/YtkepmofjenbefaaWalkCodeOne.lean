/-
  CodeOne: the walk.
-/
import Derived.Test.YtkepmofjenbefaaRefBits
import Derived.Test.YtkepmofjenbefaaWithin
import Derived.Test.YtkepmofjenbefaaOpen2
namespace Go.Proofs.Ytkepmofjenbefaa.lawCodeOne
open Go.RowKit kit sl Go.Proofs.Ytkepmofjenbefaa.code Go.Proofs.Ytkepmofjenbefaa.within Go.Proofs.Ytkepmofjenbefaa.lens Go.Proofs.Ytkepmofjenbefaa.bits
set_option linter.unusedVariables false
theorem within_ct (k n : Int) (h1 : 1 ≤ n) (h2 : n ≤ 9223372036854775807) : Ct Try.prog 17 [.int .i64 k, .int .i64 n] [] fun v H' => v = .int .i64 (withinF k n) ∧ H' = [] :=
  ct_of_calls fun W _ => (within_any k n h1 h2 W).mono fun e w' ⟨h1, h2⟩ => ⟨h1, by rw [h2]; exact Below.refl _ _⟩
theorem readF_at (l : List Int) (s : List UInt8) : ∀ (n k : Nat) (out : List Int), k ≤ 8 * s.length → (readF l s n k out).2.1 ≤ 8 * s.length := by
  intro n
  induction n with
  | zero => intro k out h; exact h
  | succ n ih =>
    intro k out h
    rw [readF]
    split
    · rename_i h1
      exact ih _ _ (oneF_at 16 0 0 k h h1).2
    · exact Nat.zero_le _
theorem readF_nil (l : List Int) (s : List UInt8) : ∀ (n k : Nat) (out : List Int), (readF l s n k out).2.2 ≠ 0 → (readF l s n k out).1 = [] := by
  intro n
  induction n with
  | zero => intro k out h; exact absurd rfl h
  | succ n ih =>
    intro k out h
    rw [readF] at h ⊢
    split
    · rename_i h1
      rw [if_pos h1] at h
      exact ih _ _ h
    · rfl
theorem way0 : readV [0, 1] [1] 0 1 = ([], 0, 7) := by decide +kernel
theorem pack_ct (q : Option Addr) (c : Nat) (ps : List (Int × Int)) (hg : ∀ p ∈ ps, (Lit.int .u64 p.1).wf = true ∧ (Lit.int .i64 p.2).wf = true) (hn : ps.length ≤ 100000000000000000) (h0 : packErr ps = 0) :
    Ct Try.prog 13 [.slice q ps.length c] [sl 2 (.slice q ps.length c) (ps.map fPc)] fun v H' => v = .tuple #[.string (str (packB ps)), .int .i64 0] ∧ H' = [] :=
  ct_of_calls fun w hw => (pack_any (.slice q ps.length c) ps w (hw.head : SliceAt w 2 _ (ps.map fPc)) hg hn).mono fun e w' ⟨h1, h2⟩ => ⟨by
    rw [h1]
    unfold packS
    rw [if_pos h0, h0]
    rfl, h2⟩
attribute [local irreducible] box own sl old bptr eptr Qt Opr Run Cod Pst Drn
set_option maxRecDepth 100000 in
set_option maxHeartbeats 8000000 in
theorem equal_I (qa qb : Option Addr) (ca cb : Nat) (xs ys : List (Int)) (hn : xs.length ≤ maxLen) (hm : ys.length ≤ maxLen) :
    Ct Try.prog 16 [.slice qa xs.length ca, .slice qb ys.length cb] [sl 1 (.slice qa xs.length ca) (xs.map fI), sl 1 (.slice qb ys.length cb) (ys.map fI)] fun v H' => v = .bool (decide (xs = ys)) ∧ H' = [] := by
  unfold maxLen at hn hm
  by_cases hl : xs.length = ys.length
  · (refine spec_enter Try.func16 Try.ntmps16 rfl rfl fun Fr => ?_; dsimp only [List.cons_append, List.nil_append, ini, Nat.reduceAdd])
    (repeat' (first | (apply run_qg 1; (focus rfl); (focus exact wt); (focus rfl); (focus (exact qg1))) | (apply run_qg 4; (focus rfl); (focus exact wt); (focus rfl); (focus (first | exact qg4 | exact qs4))) | (apply run_qg 6; (focus rfl); (focus exact wt); (focus rfl); (focus (first | exact qs6 | exact qg6 | exact q_max rfl rfl rfl | exact q_sliceData rfl rfl (by omega) | exact q_sliceDataN rfl rfl | exact q_unsafeStringN rfl rfl rfl | exact q_cap_slice rfl rfl))) | refine cod_seq ?_ | refine cod_region ?_ | refine run_nil ?_ | refine pst_then ?_ | (apply cod_cond_f; (focus rfl)) | refine cod_block ?_ | refine cod_skip ?_))
    (refine cod_loop_ro (σ := Nat) (fun k => k ≤ xs.length ∧ xs.take k = ys.take k) (fun k => [(13, .int .i64 (k : Int))]) (fun k => xs.length - k) (0) (by simp) (by exact fsa) (fun k ⟨hk, ht⟩ => ?_); dsimp only [List.cons_append, List.nil_append])
    rcases get_or xs k with ⟨x, hx, hlt⟩ | hge
    · obtain ⟨y, hy⟩ : ∃ y, ys[k]? = some y := ⟨_, List.getElem?_eq_getElem (by omega)⟩
      by_cases hxy : x = y
      · (repeat' (first | (apply run_qg 1; (focus rfl); (focus exact wt); (focus rfl); (focus (exact qg1))) | (apply run_qg 4; (focus rfl); (focus exact wt); (focus rfl); (focus (first | exact qg4 | exact qs4))) | refine cod_seq ?_ | refine cod_region ?_ | refine run_nil ?_ | refine pst_then ?_ | (apply cod_cond_t; (focus rfl)) | (apply cod_cond_f; (focus rfl)) | refine cod_block ?_ | refine cod_skip ?_ | refine pst_block ?_ | (apply cod_drawn_k; (focus kernel_rfl); (focus (simp only [List.length_cons, List.length_nil, Nat.reduceAdd]; rfl))) | (apply drnK_take 1; (focus rfl); (focus rfl); (focus exact wt); (focus (decide +kernel)); (focus exact hsq); (focus rfl); (focus (exact qg1))) | (apply drnK_take 2; (focus rfl); (focus rfl); (focus exact wt); (focus (decide +kernel)); (focus exact hsq); (focus rfl); (focus (first | exact qg2 | exact qs2))) | (apply drnK_take 3; (focus rfl); (focus rfl); (focus exact wt); (focus (decide +kernel)); (focus exact hsq); (focus rfl); (focus (first | exact qg3 | exact qs3))) | (apply drnK_take 4; (focus rfl); (focus rfl); (focus exact wt); (focus (decide +kernel)); (focus exact hsq); (focus rfl); (focus (first | exact qg4 | exact qs4))) | (apply drnK_end; (focus (decide +kernel)))))
        refine pst_again (k + 1) ?_ (FSub.of (by (try dsimp only); exact fsa)) (by (try dsimp only); exact hsa) ?_
        · exact ⟨by omega, by rw [take_one hx, take_one hy, ht, hxy]⟩
        · show xs.length - (k + 1) < xs.length - k
          omega
      · (repeat' (first | (apply run_qg 1; (focus rfl); (focus exact wt); (focus rfl); (focus (exact qg1))) | (apply run_qg 4; (focus rfl); (focus exact wt); (focus rfl); (focus (first | exact qg4 | exact qs4))) | refine cod_seq ?_ | refine cod_region ?_ | refine run_nil ?_ | refine pst_then ?_ | (apply cod_cond_t; (focus rfl)) | refine cod_block ?_ | refine cod_ret ?_ | refine cod_skip ?_ | refine pst_block_ret ?_ | refine pst_then_ret ?_ | (apply cod_drawn_k; (focus kernel_rfl); (focus (simp only [List.length_cons, List.length_nil, Nat.reduceAdd]; rfl))) | (apply drnK_take 1; (focus rfl); (focus rfl); (focus exact wt); (focus (decide +kernel)); (focus exact hsq); (focus rfl); (focus (exact qg1))) | (apply drnK_take 2; (focus rfl); (focus rfl); (focus exact wt); (focus (decide +kernel)); (focus exact hsq); (focus rfl); (focus (first | exact qg2 | exact qs2))) | (apply drnK_take 3; (focus rfl); (focus rfl); (focus exact wt); (focus (decide +kernel)); (focus exact hsq); (focus rfl); (focus (first | exact qg3 | exact qs3))) | (apply drnK_take 4; (focus rfl); (focus rfl); (focus exact wt); (focus (decide +kernel)); (focus exact hsq); (focus rfl); (focus (first | exact qg4 | exact qs4))) | (apply drnK_end; (focus (decide +kernel)))))
        have hd : decide (xs = ys) = false := by
          rw [decide_eq_false_iff_not]
          intro e
          rw [e, hy] at hx
          exact hxy (Option.some.inj hx).symm
        exact pst_fin rfl (by exact resa) _ (⟨by rw [hd], rfl⟩) (by exact hsa)
    · (repeat' (first | (apply run_qg 1; (focus rfl); (focus exact wt); (focus rfl); (focus (exact qg1))) | (apply run_qg 4; (focus rfl); (focus exact wt); (focus rfl); (focus (first | exact qg4 | exact qs4))) | refine cod_seq ?_ | refine cod_region ?_ | refine run_nil ?_ | refine pst_then ?_ | (apply cod_cond_f; (focus rfl)) | refine cod_exit ?_ | refine cod_ret ?_ | refine pst_block_here ?_ | refine pst_then_exit ?_))
      have hd : decide (xs = ys) = true := by
        rw [decide_eq_true_iff]
        rwa [List.take_of_length_le hge, List.take_of_length_le (by omega)] at ht
      exact pst_fin rfl (by exact resa) _ (⟨by rw [hd], rfl⟩) (by exact hsa)
  · have hd : decide (xs = ys) = false := by
      rw [decide_eq_false_iff_not]
      intro e
      rw [e] at hl
      exact hl rfl
    (refine spec_enter Try.func16 Try.ntmps16 rfl rfl fun Fr => ?_; dsimp only [List.cons_append, List.nil_append, ini, Nat.reduceAdd])
    (repeat' (first | (apply run_qg 1; (focus rfl); (focus exact wt); (focus rfl); (focus (exact qg1))) | (apply run_qg 4; (focus rfl); (focus exact wt); (focus rfl); (focus (first | exact qg4 | exact qs4))) | (apply run_qg 6; (focus rfl); (focus exact wt); (focus rfl); (focus (first | exact qs6 | exact qg6 | exact q_max rfl rfl rfl | exact q_sliceData rfl rfl (by omega) | exact q_sliceDataN rfl rfl | exact q_unsafeStringN rfl rfl rfl | exact q_cap_slice rfl rfl))) | refine cod_seq ?_ | refine cod_region ?_ | refine run_nil ?_ | refine pst_then ?_ | (apply cod_cond_t; (focus rfl)) | refine cod_ret ?_ | refine pst_then_ret ?_))
    exact pst_fin rfl (by exact resa) _ (⟨by rw [hd], rfl⟩) (by exact hsa)

theorem equal_cut (qa qb : Option Addr) (ca cb k : Nat) (e : TypeId) (xs ys : List Int) (h1 : k ≤ xs.length) (h2 : k ≤ ys.length) (hk : k ≤ 1000000000) (h : xs.take k = ys.take k) :
    Ct Try.prog 16 [.slice qa k ca, .slice qb k cb] [own (.slice qa xs.length ca) e 1 xs.length (flat fI xs), own (.slice qb ys.length cb) e 1 ys.length (flat fI ys)] fun v H' => v = .bool true ∧ H' = [] := by
  have hx : (xs.take k).length = k := by rw [List.length_take, Nat.min_eq_left h1]
  have hy : (ys.take k).length = k := by rw [List.length_take, Nat.min_eq_left h2]
  have h3 := ct_true (equal_I qa qb ca cb (xs.take k) (ys.take k) (by unfold maxLen; omega) (by unfold maxLen; omega)) h
  rw [hx, hy] at h3
  refine ct_mono_heap (fun Fr => ?_) h3
  refine HSub.trans (own_first h1) ?_
  refine HSub.trans (hsub_perm (List.Perm.swap _ _ _)) ?_
  refine HSub.trans (own_first h2) ?_
  exact hsub_perm (List.Perm.swap _ _ _)
theorem read_is {q : Option Addr} {c : Nat} {l : List Int} {s : List UInt8} {k n : Nat} {r1 : List Int} {r2 : Nat} {r3 : Int} (hg : ∀ x ∈ l, (Lit.int .i64 x).wf = true) (hn : l.length ≤ 1000000000000000) (hs : s.length ≤ 140737488351232) (hk : k ≤ 8 * s.length) (hn2 : n ≤ 1024) (h : readV l s k n = (r1, r2, r3)) :
    Ct Try.prog 15 [.slice q l.length c, .string (str s), .int .i64 (k : Int), .int .i64 (n : Int)] [sl 1 (.slice q l.length c) (l.map fI)]
      fun v H' => ∃ q2 c2, v = .tuple #[.slice q2 r1.length c2, .int .i64 (r2 : Int), .int .i64 r3] ∧ H' = [own (.slice q2 r1.length c2) 3 1 r1.length (flat fI r1)] := by
  have := read_any q c l s k n hg hn hs hk hn2
  rwa [h] at this
theorem bits_is {s : List UInt8} {n : Nat} (hs : s.length ≤ 2000000) (hn : 8 * s.length = n) : Ct Try.prog 19 [.string (str s)] [] fun v H' => ∃ q c, (v = .slice q (bitsL s).length c ∧ n ≤ c) ∧ H' = [own (.slice q (bitsL s).length c) 3 1 (bitsL s).length (flat fI (bitsL s))] := by
  have := bits_any s hs
  rw [bitsL_len, hn] at this
  rwa [bitsL_len, hn]
set_option maxRecDepth 100000 in
set_option maxHeartbeats 8000000 in
theorem law_any (q : Option Addr) (c : Nat) (l : List Int) (s : List UInt8) (z : Int) (hg : ∀ x ∈ l, (Lit.int .i64 x).wf = true) (hn : l.length ≤ 1000000000000000) (hs : s.length ≤ 1048576) :
    Ct Try.prog 5 [.slice q l.length c, .string (str s), .int .i64 z] [sl 1 (.slice q l.length c) (l.map fI)] fun v H' => v = .bool true ∧ H' = [] := by
  have C0 := fun q c => read_is (q := q) (c := c) (by decide) (by decide) (by decide) (by decide) (by decide) way0
  have W1 := within_ct z 200 (by decide) (by decide)
  have b1 := withinF_bd z 200 (by decide)
  obtain ⟨n, hn1⟩ := Int.eq_ofNat_of_zero_le b1.1
  rw [hn1] at W1 b1
  rcases ha : readV l s 0 n with ⟨sg, k2, e1⟩
  have C1 := fun q c => read_is (q := q) (c := c) hg hn (by omega) (Nat.zero_le _) (by omega) ha
  by_cases h1 : e1 = 0
  · subst h1
    have hc : canonE l = 0 := by
      refine Decidable.byContradiction fun h => ?_
      unfold readV at ha
      rw [if_neg h] at ha
      have h9 := congrArg (fun r => r.2.2) ha
      dsimp only at h9
      omega
    have ha2 : readF l s n 0 [] = (sg, k2, 0) := by unfold readV at ha; rwa [if_pos hc] at ha
    have hk2 : k2 ≤ 8 * s.length := by have h9 := readF_at l s n 0 [] (Nat.zero_le _); rwa [ha2] at h9
    obtain ⟨t, ht, hS⟩ := read_said n 0 k2 [] sg ha2
    rw [List.nil_append] at ht
    subst ht
    obtain ⟨p1, p2⟩ := said_pack hS (by omega)
    have htot := hS.tot
    have hbd := hS.bd
    have hlen := hS.len
    have hwv : writeV l sg = (sg.map (pieceC l), 0) := by
      unfold writeV
      rw [if_pos hc, wrF_all sg [] hS.has]
      rfl
    have hpl : (sg.map (pieceC l)).length ≤ 200 := by rw [List.length_map]; omega
    have hpw : ∀ p ∈ sg.map (pieceC l), (Lit.int .u64 p.1).wf = true ∧ (Lit.int .i64 p.2).wf = true := by
      intro p hp
      obtain ⟨x, hx, rfl⟩ := List.mem_map.1 hp
      obtain ⟨a, v, ha3, hv3, he⟩ := hS.pc x hx
      rw [he]
      simp [Lit.wf, IntKind.min, IntKind.max, IntKind.signed, IntKind.bits]
      omega
    have K0 := fun q2 c2 => write_any q q2 c c2 l sg hg hn (by omega)
    rw [hwv] at K0
    dsimp only at K0
    generalize sg.map (pieceC l) = ps at *
    have P0 := fun q c => pack_ct q c ps hpw (by omega) p1
    have htl : (packB ps).length = (k2 + 7) / 8 := by rw [p2, toLE_len]
    have hsame := bits_same p2 hk2
    generalize packB ps = t at *
    have hk3 : k2 ≤ 3000 := by omega
    have B1 := bits_is (s := t) (n := 8 * ((k2 + 7) / 8)) (by omega) (by omega)
    have B2 := bits_is (s := s) (n := 8 * s.length) (by omega) rfl
    have E1 := fun qa qb ca cb e => equal_cut qa qb ca cb k2 e (bitsL t) (bitsL s) (by rw [bitsL_len]; omega) (by rw [bitsL_len]; omega) (by omega) hsame
    have htl2 : (t.length : Int) = ((k2 : Int) + 7) / 8 := by omega
    clear ha ha2 hS hsame p1 p2 hwv hpw
    (refine spec_enter Try.func5 Try.ntmps5 rfl rfl fun Fr => ?_; dsimp only [List.cons_append, List.nil_append, ini, Nat.reduceAdd])
    (repeat' (first | (apply run_qg 1; (focus rfl); (focus exact wt); (focus rfl); (focus (exact qg1))) | refine cod_seq ?_ | refine cod_region ?_ | refine run_nil ?_ | refine pst_then ?_ | (apply run_osg 10; (focus rfl); (focus exact wt); (focus rfl); (focus (exact opr_buildSlice rfl rfl rfl (by exact blda) rfl rfl (by decide) rfl)); (rintro _ _ ⟨q, rfl, rfl⟩))))
    (refine run_os wt rfl (opr_call_l rfl (C0 _ _) rfl (by exact lpa)) ?_; rintro _ _ ⟨_, ⟨q0, c0, rfl, rfl⟩, rfl⟩; dsimp only [List.cons_append, List.nil_append])
    (repeat' (first | (apply run_qg 1; (focus rfl); (focus exact wt); (focus rfl); (focus (exact qg1))) | (apply run_qg 4; (focus rfl); (focus exact wt); (focus rfl); (focus (first | exact qg4 | exact qs4))) | refine cod_seq ?_ | refine cod_region ?_ | refine run_nil ?_ | refine pst_then ?_ | (apply cod_cond_f; (focus rfl)) | refine cod_skip ?_ | (apply run_osg 7; (focus rfl); (focus exact wt); (focus rfl); (focus (exact opr_call_ls (by rfl) (W1 ..) (by rfl) lpa)); (rintro _ _ ⟨rfl, rfl⟩))))
    (refine run_os wt rfl (opr_call_l rfl (C1 _ _) rfl (by exact lpa)) ?_; rintro _ _ ⟨_, ⟨q1, c1, rfl, rfl⟩, rfl⟩; dsimp only [List.cons_append, List.nil_append])
    (repeat' (first | (apply run_qg 1; (focus rfl); (focus exact wt); (focus rfl); (focus (exact qg1))) | (apply run_qg 4; (focus rfl); (focus exact wt); (focus rfl); (focus (first | exact qg4 | exact qs4))) | refine cod_seq ?_ | refine cod_region ?_ | refine run_nil ?_ | refine pst_then ?_ | (apply cod_cond_f; (focus rfl)) | refine cod_skip ?_))
    (refine run_os wt rfl (opr_call_l rfl (K0 _ _) rfl (by exact lpa)) ?_; rintro _ _ ⟨_, ⟨q2, c2, rfl, rfl⟩, rfl⟩; dsimp only [List.cons_append, List.nil_append])
    (repeat' (first | (apply run_qg 1; (focus rfl); (focus exact wt); (focus rfl); (focus (exact qg1))) | (apply run_qg 4; (focus rfl); (focus exact wt); (focus rfl); (focus (first | exact qg4 | exact qs4))) | (apply run_qg 6; (focus rfl); (focus exact wt); (focus rfl); (focus (first | exact qs6 | exact qg6 | exact q_max rfl rfl rfl | exact q_sliceData rfl rfl (by omega) | exact q_sliceDataN rfl rfl | exact q_unsafeStringN rfl rfl rfl | exact q_cap_slice rfl rfl))) | refine cod_seq ?_ | refine cod_region ?_ | refine run_nil ?_ | refine pst_then ?_ | (apply cod_cond_f; (focus rfl)) | refine cod_skip ?_))
    (repeat' (first | (apply run_qg 1; (focus rfl); (focus exact wt); (focus rfl); (focus (exact qg1))) | refine cod_seq ?_ | refine run_nil ?_ | refine pst_then ?_ | (apply run_osg 7; (focus rfl); (focus exact wt); (focus rfl); (focus (exact opr_call_ls (by rfl) (P0 ..) (by rfl) lpa)); (rintro _ _ ⟨rfl, rfl⟩))))
    (refine cod_drawn_ks (Hq := []) [] [] rfl (by kernel_rfl) (by simp only [List.length_cons, List.length_nil, Nat.reduceAdd]; rfl) ?_)
    (repeat' (first | (apply drnK_take 1; (focus rfl); (focus rfl); (focus exact wt); (focus (decide +kernel)); (focus exact hsq); (focus rfl); (focus (exact qg1))) | (apply drnK_take 4; (focus rfl); (focus rfl); (focus exact wt); (focus (decide +kernel)); (focus exact hsq); (focus rfl); (focus (first | exact qg4 | exact qs4))) | (apply drnK_take 6; (focus rfl); (focus rfl); (focus exact wt); (focus (decide +kernel)); (focus exact hsq); (focus rfl); (focus (first | exact qs6 | exact qg6 | exact q_max rfl rfl rfl | exact q_sliceData rfl rfl (by omega) | exact q_sliceDataN rfl rfl | exact q_unsafeStringN rfl rfl rfl | exact q_cap_slice rfl rfl))) | (apply drnK_done; (focus (decide +kernel))) | (apply drnK_skip; (focus rfl)) | (apply drnK_wrap; (focus rfl))))
    (refine drnK_at 12 ?_; refine drnK_ones _ (by rfl) (by rfl) (by kernel_rfl) wt (by rfl) (opr_call_l rfl (B1) rfl lpa) ?_; rintro _ _ ⟨_, ⟨q5, c5, ⟨rfl, hc5⟩, rfl⟩, rfl⟩; refine ⟨(by first | exact fun h => absurd h (by decide) | exact fun _ => hsq), ?_⟩; (try dsimp only [List.cons_append, List.nil_append]))
    (repeat' (first | (apply drnK_take 12; (focus rfl); (focus rfl); (focus exact wt); (focus (decide +kernel)); (focus exact hsq); (focus rfl); (focus (first | exact qs12 | exact q_cutp rfl rfl rfl rfl (by omega) (by omega) | exact q_slice_cap rfl rfl rfl rfl (by omega)))) | (apply drnK_done; (focus (decide +kernel))) | (apply drnK_skip; (focus rfl))))
    (refine drnK_at 16 ?_; refine drnK_ones _ (by rfl) (by rfl) (by kernel_rfl) wt (by rfl) (opr_call_l rfl (B2) rfl lpa) ?_; rintro _ _ ⟨_, ⟨q6, c6, ⟨rfl, hc6⟩, rfl⟩, rfl⟩; refine ⟨(by first | exact fun h => absurd h (by decide) | exact fun _ => hsq), ?_⟩; (try dsimp only [List.cons_append, List.nil_append]))
    (repeat' (first | refine pst_then ?_ | refine cod_ret ?_ | (apply drnK_take 1; (focus rfl); (focus rfl); (focus exact wt); (focus (decide +kernel)); (focus exact hsq); (focus rfl); (focus (exact qg1))) | (apply drnK_take 12; (focus rfl); (focus rfl); (focus exact wt); (focus (decide +kernel)); (focus exact hsq); (focus rfl); (focus (first | exact qs12 | exact q_cutp rfl rfl rfl rfl (by omega) (by omega) | exact q_slice_cap rfl rfl rfl rfl (by omega)))) | (apply drnK_end; (focus (decide +kernel))) | (apply drnK_done; (focus (decide +kernel))) | (apply drnK_ones 7; (focus rfl); (focus rfl); (focus (decide +kernel)); (focus exact wt); (focus rfl); (focus (exact opr_call_ls (by rfl) (E1 ..) (by rfl) lpa)); (rintro _ _ ⟨rfl, rfl⟩; refine ⟨(by first | exact fun h => absurd h (by decide) | exact fun _ => hsq), ?_⟩))))
    exact pst_fin rfl (by exact resa) _ (⟨rfl, rfl⟩) (by exact hsa)
  · have h2 : sg = [] := by
      unfold readV at ha
      split at ha
      · have h9 := readF_nil l s n 0 []
        rw [ha] at h9
        exact h9 h1
      · exact (congrArg Prod.fst ha).symm
    subst h2
    clear ha
    (refine spec_enter Try.func5 Try.ntmps5 rfl rfl fun Fr => ?_; dsimp only [List.cons_append, List.nil_append, ini, Nat.reduceAdd])
    (repeat' (first | (apply run_qg 1; (focus rfl); (focus exact wt); (focus rfl); (focus (exact qg1))) | refine cod_seq ?_ | refine cod_region ?_ | refine run_nil ?_ | refine pst_then ?_ | (apply run_osg 10; (focus rfl); (focus exact wt); (focus rfl); (focus (exact opr_buildSlice rfl rfl rfl (by exact blda) rfl rfl (by decide) rfl)); (rintro _ _ ⟨q, rfl, rfl⟩))))
    (refine run_os wt rfl (opr_call_l rfl (C0 _ _) rfl (by exact lpa)) ?_; rintro _ _ ⟨_, ⟨q0, c0, rfl, rfl⟩, rfl⟩; dsimp only [List.cons_append, List.nil_append])
    (repeat' (first | (apply run_qg 1; (focus rfl); (focus exact wt); (focus rfl); (focus (exact qg1))) | (apply run_qg 4; (focus rfl); (focus exact wt); (focus rfl); (focus (first | exact qg4 | exact qs4))) | refine cod_seq ?_ | refine cod_region ?_ | refine run_nil ?_ | refine pst_then ?_ | (apply cod_cond_f; (focus rfl)) | refine cod_skip ?_ | (apply run_osg 7; (focus rfl); (focus exact wt); (focus rfl); (focus (exact opr_call_ls (by rfl) (W1 ..) (by rfl) lpa)); (rintro _ _ ⟨rfl, rfl⟩))))
    (refine run_os wt rfl (opr_call_l rfl (C1 _ _) rfl (by exact lpa)) ?_; rintro _ _ ⟨_, ⟨q1, c1, rfl, rfl⟩, rfl⟩; dsimp only [List.cons_append, List.nil_append])
    (repeat' (first | (apply run_qg 1; (focus rfl); (focus exact wt); (focus rfl); (focus (exact qg1))) | (apply run_qg 4; (focus rfl); (focus exact wt); (focus rfl); (focus (first | exact qg4 | exact qs4))) | (apply run_qg 6; (focus rfl); (focus exact wt); (focus rfl); (focus (first | exact qs6 | exact qg6 | exact q_max rfl rfl rfl | exact q_sliceData rfl rfl (by omega) | exact q_sliceDataN rfl rfl | exact q_unsafeStringN rfl rfl rfl | exact q_cap_slice rfl rfl))) | refine cod_seq ?_ | refine cod_region ?_ | refine run_nil ?_ | refine pst_then ?_ | (apply cod_cond_t; (focus rfl)) | refine cod_ret ?_ | refine pst_then_ret ?_))
    exact pst_fin rfl (by exact resa) _ (⟨rfl, rfl⟩) (by exact hsa)
theorem walk (W : World) (v : Value) (l : List Int) (hv : SliceAt W 1 v (l.map fun z : Int => [Value.int .i64 z])) (hg : ∀ z ∈ l, (Lit.int .i64 z).wf = true) (hn : l.length ≤ 1048576)
    (s : ByteArray) (hs : s.size ≤ 1048576) (z : Int) (wz : (Lit.int .i64 z).wf = true) :
    Calls Try.prog 5 #[v, .string s, .int .i64 z] W fun e w' => e = .returned (.bool true) ∧ Below W.heap.size W w' := by
  obtain ⟨t, rfl, ht⟩ := str_of s
  obtain ⟨q, c, rfl⟩ := slice_shape hv
  simp only [List.length_map]
  simp only [List.length_map] at hv
  exact law_of_ct (sh_cons hv sh_nil) (law_any q c l t z hg (by omega) (by omega))
end Go.Proofs.Ytkepmofjenbefaa.lawCodeOne
