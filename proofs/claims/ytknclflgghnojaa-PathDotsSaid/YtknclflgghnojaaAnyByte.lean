/-
  strings.ContainsAny with the signs '/' and the byte 0, over any text; dir.Good.
-/
import Derived.Test.YtknclflgghnojaaSlIter
import Derived.Test.YtknclflgghnojaaTypes
import Derived.Test.YtknclflgghnojaaShelf
namespace Go.Proofs.Ytknclflgghnojaa.nam
open Go.RowKit kit sl
set_option linter.unusedVariables false
instance : Cal Try.prog 102 := ⟨by kernel_rfl⟩
attribute [local irreducible] box own sl old bptr eptr Qt Opr Run Cod Pst Drn
set_option maxRecDepth 100000 in
set_option maxHeartbeats 8000000 in
theorem valid_any (r : Int) (h0 : 0 ≤ r) (h1 : r ≤ 2147483647) (hv : Utf8.valid r = true) : Ct Try.prog 102 [.int .i32 r] [] fun v H' => v = .bool true ∧ H' = [] := by
  unfold Utf8.valid at hv
  simp at hv
  by_cases h : r < 55296
  · clear hv
    (refine spec_enter Try.func102 Try.ntmps102 rfl rfl fun Fr => ?_; dsimp only [List.cons_append, List.nil_append, ini, Nat.reduceAdd])
    (repeat' (first | (apply run_qg 1; (focus rfl); (focus exact wt); (focus rfl); (focus (exact qg1))) | (apply run_qg 4; (focus rfl); (focus exact wt); (focus rfl); (focus (first | exact qg4 | exact qs4))) | refine cod_seq ?_ | refine cod_region ?_ | refine run_nil ?_ | refine pst_then ?_ | (apply cod_cond_t; (focus rfl)) | refine cod_block ?_ | refine cod_ret ?_ | refine pst_block_ret ?_ | refine pst_then_ret ?_))
    exact pst_fin rfl (by exact resa) _ (⟨rfl, rfl⟩) (by exact hsa)
  · have h2 : 57343 < r := by omega
    have h3 : r ≤ 1114111 := by omega
    clear hv
    (refine spec_enter Try.func102 Try.ntmps102 rfl rfl fun Fr => ?_; dsimp only [List.cons_append, List.nil_append, ini, Nat.reduceAdd])
    (repeat' (first | (apply run_qg 1; (focus rfl); (focus exact wt); (focus rfl); (focus (exact qg1))) | (apply run_qg 4; (focus rfl); (focus exact wt); (focus rfl); (focus (first | exact qg4 | exact qs4))) | refine cod_seq ?_ | refine cod_region ?_ | refine run_nil ?_ | refine pst_then ?_ | (apply cod_cond_t; (focus rfl)) | (apply cod_cond_f; (focus rfl)) | refine cod_block ?_ | refine cod_ret ?_ | refine pst_block_ret ?_ | refine pst_then_ret ?_))
    exact pst_fin rfl (by exact resa) _ (⟨rfl, rfl⟩) (by exact hsa)
theorem ibyte_any (l : List UInt8) (c : Int) : Ct Try.prog 77 [.string (str l), .int .u8 c] [] fun v H' => v = .int .i64 (Lib.indexByte l c.toNat.toUInt8) ∧ H' = [] :=
  ct_of_calls fun w _ => (Try.strings_IndexByte (str l) c w).mono fun e w' ⟨h1, h2⟩ => ⟨h1, by rw [h2]; exact Below.refl _ _⟩
theorem enc_str (r : Int) (hv : Utf8.valid r = true) (h : 128 ≤ r) : ∃ e : List UInt8, Utf8.encode r = str e ∧ 2 ≤ e.length ∧ e.length ≤ 4 ∧ ∃ x : UInt8, e[e.length - 1]? = some x ∧ 128 ≤ x.toNat := by
  obtain ⟨h1, h2, h3⟩ := encode_facts r hv h
  have hs : (Utf8.encode r).size = (Utf8.encode r).data.toList.length := by simp
  refine ⟨(Utf8.encode r).data.toList, rfl, by omega, by omega, (Utf8.encode r)[(Utf8.encode r).size - 1]'(by omega), ?_, h3 (by omega)⟩
  rw [← hs]
  simp [ByteArray.getElem_eq_getElem_data]
set_option maxRecDepth 100000 in
set_option maxHeartbeats 8000000 in
theorem irune_any (r : Int) (h0 : 0 ≤ r) (h1 : r ≤ 2147483647) (hr : r < 128 ∨ r = 65533 ∨ Utf8.valid r = true) :
    Ct Try.prog 91 [.string (str [47, 0]), .int .i32 r] [] fun v H' => v = .int .i64 (if r = 47 then 0 else if r = 0 then 1 else -1) ∧ H' = [] := by
  by_cases hlt : r < 128
  · have hw : IntKind.u8.wrap r = r := wr_u8 (by omega)
    have I0 := ibyte_any [47, 0] r
    have e : Lib.indexByte [47, 0] r.toNat.toUInt8 = if r = 47 then 0 else if r = 0 then 1 else -1 := by
      obtain ⟨n, rfl⟩ := Int.eq_ofNat_of_zero_le h0
      have hn : n < 128 := by omega
      clear I0 hw hr h0 h1 hlt
      revert n
      decide +kernel
    rw [e] at I0
    generalize (if r = 47 then (0 : Int) else if r = 0 then 1 else -1) = res at *
    clear e hr
    (refine spec_enter Try.func91 Try.ntmps91 rfl rfl fun Fr => ?_; dsimp only [List.cons_append, List.nil_append, ini, Nat.reduceAdd])
    (repeat' (first | (apply run_qg 1; (focus rfl); (focus exact wt); (focus rfl); (focus (exact qg1))) | (apply run_qg 4; (focus rfl); (focus exact wt); (focus rfl); (focus (first | exact qg4 | exact qs4))) | (apply run_qg 11; (focus rfl); (focus exact wt); (focus rfl); (focus (exact qs11))) | refine cod_seq ?_ | refine cod_region ?_ | refine run_nil ?_ | refine pst_then ?_ | (apply cod_cond_t; (focus rfl)) | refine cod_block ?_ | refine cod_ret ?_ | refine pst_block_ret ?_ | (apply run_osg 7; (focus rfl); (focus exact wt); (focus rfl); (focus (exact opr_call_ls (by rfl) (I0 ..) (by rfl) lpa)); (rintro _ _ ⟨rfl, rfl⟩))))
    exact pst_fin rfl (by exact resa) _ (⟨rfl, rfl⟩) (by exact hsa)
  · have e : (if r = 47 then (0 : Int) else if r = 0 then 1 else -1) = -1 := by rw [if_neg (by omega), if_neg (by omega)]
    rw [e]
    clear e
    by_cases h3 : r = 65533
    · subst h3
      clear hr
      (refine spec_enter Try.func91 Try.ntmps91 rfl rfl fun Fr => ?_; dsimp only [List.cons_append, List.nil_append, ini, Nat.reduceAdd])
      (repeat' (first | (apply run_qg 1; (focus rfl); (focus exact wt); (focus rfl); (focus (exact qg1))) | (apply run_qg 4; (focus rfl); (focus exact wt); (focus rfl); (focus (first | exact qg4 | exact qs4))) | refine cod_seq ?_ | refine cod_region ?_ | refine run_nil ?_ | refine pst_then ?_ | (apply cod_cond_t; (focus rfl)) | (apply cod_cond_f; (focus rfl)) | refine cod_block ?_))
      (refine run_os wt rfl (opr_range rfl rfl) ?_; rintro _ _ ⟨b, rfl, rfl⟩)
      (repeat' (first | refine run_nil ?_ | refine pst_then ?_ | refine cod_block ?_))
      (refine cod_loop_rw (σ := Nat) (fun p => p ≤ 2) (fun p => []) (fun p => [iter b [47, 0] p]) _ (fun p => 2 - p) (0) (by exact Nat.zero_le _) (by exact fsa) (by (first | exact HSub.of_picks_rest (by exact pca))) (fun p hp => ?_); dsimp only [List.cons_append, List.nil_append])
      rcases Nat.lt_or_ge p 1 with hp1 | hp1
      · have : p = 0 := by omega
        subst this
        (repeat' (first | refine cod_seq ?_ | refine cod_region ?_))
        (refine run_os wt rfl (opr_next rfl rfl pka (by decide)) ?_; rintro _ _ ⟨rfl, rfl⟩)
        rw [show runeAt [47, 0] 0 = 47 from by decide +kernel, show wideAt [47, 0] 0 = 1 from by decide +kernel]
        (repeat' (first | (apply run_qg 1; (focus rfl); (focus exact wt); (focus rfl); (focus (exact qg1))) | (apply run_qg 4; (focus rfl); (focus exact wt); (focus rfl); (focus (first | exact qg4 | exact qs4))) | refine cod_seq ?_ | refine cod_region ?_ | refine run_nil ?_ | refine pst_then ?_ | (apply cod_cond_t; (focus rfl)) | (apply cod_cond_f; (focus rfl)) | refine cod_block ?_ | refine cod_skip ?_ | refine pst_block ?_))
        refine pst_again (1) ?_ (FSub.of (by (try dsimp only); exact fsa)) (by (try dsimp only); exact hsa) ?_
        · decide
        · decide
      · rcases Nat.lt_or_ge p 2 with hp2 | hp2
        · have : p = 1 := by omega
          subst this
          (repeat' (first | refine cod_seq ?_ | refine cod_region ?_))
          (refine run_os wt rfl (opr_next rfl rfl pka (by decide)) ?_; rintro _ _ ⟨rfl, rfl⟩)
          rw [show runeAt [47, 0] 1 = 0 from by decide +kernel, show wideAt [47, 0] 1 = 1 from by decide +kernel]
          (repeat' (first | (apply run_qg 1; (focus rfl); (focus exact wt); (focus rfl); (focus (exact qg1))) | (apply run_qg 4; (focus rfl); (focus exact wt); (focus rfl); (focus (first | exact qg4 | exact qs4))) | refine cod_seq ?_ | refine cod_region ?_ | refine run_nil ?_ | refine pst_then ?_ | (apply cod_cond_t; (focus rfl)) | (apply cod_cond_f; (focus rfl)) | refine cod_block ?_ | refine cod_skip ?_ | refine pst_block ?_))
          refine pst_again (2) ?_ (FSub.of (by (try dsimp only); exact fsa)) (by (try dsimp only); exact hsa) ?_
          · decide
          · decide
        · (repeat' (first | refine cod_seq ?_ | refine cod_region ?_))
          (refine run_os wt rfl (opr_next_end rfl rfl pka hp2) ?_; rintro _ _ ⟨rfl, rfl⟩)
          (repeat' (first | (apply run_qg 1; (focus rfl); (focus exact wt); (focus rfl); (focus (exact qg1))) | refine cod_seq ?_ | refine cod_region ?_ | refine run_nil ?_ | refine pst_then ?_ | (apply cod_cond_f; (focus rfl)) | refine cod_exit ?_ | refine cod_ret ?_ | refine pst_block_here ?_ | refine pst_block_ret ?_ | refine pst_then_exit ?_))
          exact pst_fin rfl (by exact resa) _ (⟨rfl, rfl⟩) (by exact hsa)
    · have hv := (hr.resolve_left hlt).resolve_left h3
      have V0 := valid_any r h0 h1 hv
      obtain ⟨en, he, hl2, hl4, x, hx, hx8⟩ := enc_str r hv (by omega)
      clear hr hv
      (refine spec_enter Try.func91 Try.ntmps91 rfl rfl fun Fr => ?_; dsimp only [List.cons_append, List.nil_append, ini, Nat.reduceAdd])
      (repeat' (first | (apply run_qg 1; (focus rfl); (focus exact wt); (focus rfl); (focus (exact qg1))) | (apply run_qg 4; (focus rfl); (focus exact wt); (focus rfl); (focus (first | exact qg4 | exact qs4))) | refine cod_seq ?_ | refine cod_region ?_ | refine run_nil ?_ | refine pst_then ?_ | (apply cod_cond_f; (focus rfl)) | refine cod_block ?_ | refine cod_scope ?_ | (apply run_osg 7; (focus rfl); (focus exact wt); (focus rfl); (focus (exact opr_call_ls (by rfl) (V0 ..) (by rfl) lpa)); (rintro _ _ ⟨rfl, rfl⟩))))
      refine run_qs wt (by rfl) (q_runestr rfl rfl) ?_
      rw [he]
      have hc : (en.length : Int) - 1 = ((en.length - 1 : Nat) : Int) := by omega
      (repeat' (first | (apply run_qg 1; (focus rfl); (focus exact wt); (focus rfl); (focus (exact qg1))) | (apply run_qg 4; (focus rfl); (focus exact wt); (focus rfl); (focus (first | exact qg4 | exact qs4))) | (apply run_qg 6; (focus rfl); (focus exact wt); (focus rfl); (focus (first | exact qs6 | exact qg6 | exact q_max rfl rfl rfl | exact q_sliceData rfl rfl (by omega) | exact q_sliceDataN rfl rfl | exact q_unsafeStringN rfl rfl rfl | exact q_cap_slice rfl rfl))) | refine cod_seq ?_ | refine cod_region ?_ | refine run_nil ?_ | refine pst_then ?_ | refine cod_block ?_))
      (refine cod_loop_ro (σ := Unit) (fun _ => True) (fun _ => []) (fun _ => 0) (()) (by trivial) (by exact fsa) (fun u hu => ?_); dsimp only [List.cons_append, List.nil_append])
      by_cases h2 : en.length = 2
      · have hlt1 : (en.length : Int) - 1 < 2 := by omega
        obtain ⟨y, hy, hy0⟩ : ∃ y : UInt8, ([47, 0] : List UInt8)[en.length - 1]? = some y ∧ y.toNat = 0 := ⟨0, by rw [h2]; rfl, rfl⟩
        have I0 := ibyte_any [] (x.toNat : Int)
        rw [show Lib.indexByte [] ((x.toNat : Int)).toNat.toUInt8 = -1 from rfl] at I0
        have hd : ([47, 0] : List UInt8).drop (en.length - 1 + 1) = [] := by rw [h2]; rfl
        have hc2 : (en.length : Int) - 1 + 1 = ((en.length - 1 + 1 : Nat) : Int) := by omega
        clear h2
        (repeat' (first | (apply run_qg 1; (focus rfl); (focus exact wt); (focus rfl); (focus (exact qg1))) | (apply run_qg 4; (focus rfl); (focus exact wt); (focus rfl); (focus (first | exact qg4 | exact qs4))) | (apply run_qg 6; (focus rfl); (focus exact wt); (focus rfl); (focus (first | exact qs6 | exact qg6 | exact q_max rfl rfl rfl | exact q_sliceData rfl rfl (by omega) | exact q_sliceDataN rfl rfl | exact q_unsafeStringN rfl rfl rfl | exact q_cap_slice rfl rfl))) | refine cod_seq ?_ | refine cod_region ?_ | refine run_nil ?_ | refine pst_then ?_ | (apply cod_cond_t; (focus rfl)) | refine cod_block ?_ | refine cod_ret ?_ | refine cod_skip ?_ | refine pst_block_ret ?_ | refine pst_then_ret ?_ | refine cod_scope ?_ | refine pst_scope_ret ?_ | (apply cod_drawn_k; (focus kernel_rfl); (focus (simp only [List.length_cons, List.length_nil, Nat.reduceAdd]; rfl))) | (apply drnK_take 1; (focus rfl); (focus rfl); (focus exact wt); (focus (decide +kernel)); (focus exact hsq); (focus rfl); (focus (exact qg1))) | (apply drnK_take 3; (focus rfl); (focus rfl); (focus exact wt); (focus (decide +kernel)); (focus exact hsq); (focus rfl); (focus (first | exact qg3 | exact qs3))) | (apply drnK_take 4; (focus rfl); (focus rfl); (focus exact wt); (focus (decide +kernel)); (focus exact hsq); (focus rfl); (focus (first | exact qg4 | exact qs4))) | (apply drnK_take 12; (focus rfl); (focus rfl); (focus exact wt); (focus (decide +kernel)); (focus exact hsq); (focus rfl); (focus (first | exact qs12 | exact q_cutp rfl rfl rfl rfl (by omega) (by omega) | exact q_slice_cap rfl rfl rfl rfl (by omega)))) | (apply drnK_end; (focus (decide +kernel))) | (apply drnK_ones 7; (focus rfl); (focus rfl); (focus (decide +kernel)); (focus exact wt); (focus rfl); (focus (exact opr_call_ls (by rfl) (I0 ..) (by rfl) lpa)); (rintro _ _ ⟨rfl, rfl⟩; refine ⟨(by first | exact fun h => absurd h (by decide) | exact fun _ => hsq), ?_⟩))))
        exact pst_fin rfl (by exact resa) _ (⟨rfl, rfl⟩) (by exact hsa)
      · have hge : ¬ (en.length : Int) - 1 < (([47, 0] : List UInt8).length : Int) := by
          show ¬ (en.length : Int) - 1 < 2
          omega
        (repeat' (first | (apply run_qg 1; (focus rfl); (focus exact wt); (focus rfl); (focus (exact qg1))) | (apply run_qg 4; (focus rfl); (focus exact wt); (focus rfl); (focus (first | exact qg4 | exact qs4))) | (apply run_qg 6; (focus rfl); (focus exact wt); (focus rfl); (focus (first | exact qs6 | exact qg6 | exact q_max rfl rfl rfl | exact q_sliceData rfl rfl (by omega) | exact q_sliceDataN rfl rfl | exact q_unsafeStringN rfl rfl rfl | exact q_cap_slice rfl rfl))) | refine cod_seq ?_ | refine cod_region ?_ | refine run_nil ?_ | refine pst_then ?_ | (apply cod_cond_f; (focus rfl)) | refine cod_exit ?_ | refine cod_ret ?_ | refine pst_block_here ?_ | refine pst_block_ret ?_ | refine pst_then_exit ?_ | refine pst_then_ret ?_ | refine pst_scope_ret ?_))
        exact pst_fin rfl (by exact resa) _ (⟨rfl, rfl⟩) (by exact hsa)
/-- has a text a byte that no name may have? -/
def hasBad (l : List UInt8) : Bool := decide (47 ∈ l ∨ 0 ∈ l)
theorem indexAny_iff (l : List UInt8) : (0 ≤ Lib.indexAny l [47, 0]) ↔ (47 ∈ l ∨ 0 ∈ l) := by
  induction l with
  | nil => simp [Lib.indexAny]
  | cons b l ih =>
    have h1 := Lib.indexAny_ge [47, 0] l
    unfold Lib.indexAny
    by_cases hb : ([47, 0] : List UInt8).contains b = true
    · rw [if_pos hb]
      simp only [List.contains_eq_mem, decide_eq_true_eq, List.mem_cons, List.not_mem_nil, or_false] at hb
      refine ⟨fun _ => ?_, fun _ => by decide⟩
      rcases hb with rfl | rfl
      · exact .inl List.mem_cons_self
      · exact .inr List.mem_cons_self
    · rw [if_neg hb]
      have hb' : ¬ (b = 47 ∨ b = 0) := by simpa using hb
      have e : (47 ∈ b :: l ∨ 0 ∈ b :: l) ↔ (47 ∈ l ∨ 0 ∈ l) := by
        simp only [List.mem_cons]
        constructor
        · rintro ((h | h) | (h | h))
          · exact absurd (.inl h.symm) hb'
          · exact .inl h
          · exact absurd (.inr h.symm) hb'
          · exact .inr h
        · rintro (h | h)
          · exact .inl (.inr h)
          · exact .inr (.inr h)
      rw [e, ← ih]
      split
      · rename_i h2
        have h3 : Lib.indexAny l [47, 0] = -1 := by simpa using h2
        constructor
        · intro h; omega
        · intro h; omega
      · rename_i h2
        have h3 : Lib.indexAny l [47, 0] ≠ -1 := by simpa using h2
        constructor
        · intro h; omega
        · intro h; omega
theorem mem_take_getD {l : List UInt8} {p : Nat} {c : UInt8} (h : c ∈ l.take p) : ∃ j, j < p ∧ j < l.length ∧ l.getD j 0 = c := by
  obtain ⟨j, hj⟩ := List.getElem?_of_mem h
  have h1 := (List.getElem?_eq_some_iff.1 hj).1
  rw [List.length_take] at h1
  rw [List.getElem?_take_of_lt (by omega)] at hj
  exact ⟨j, by omega, by omega, by rw [List.getD_eq_getElem?_getD, hj]; rfl⟩
theorem getD_mem {l : List UInt8} {j : Nat} (h : j < l.length) : l.getD j 0 ∈ l := by
  rw [List.getD_eq_getElem?_getD, List.getElem?_eq_getElem h]
  exact List.getElem_mem h
set_option maxRecDepth 100000 in
set_option maxHeartbeats 8000000 in
theorem iany_short (l : List UInt8) (h8 : l.length ≤ 8) :
    Ct Try.prog 79 [.string (str l), .string (str [47, 0])] [] fun v H' => ∃ r : Int, (0 ≤ r ↔ (47 ∈ l ∨ 0 ∈ l)) ∧ v = .int .i64 r ∧ H' = [] := by
  have h2 : (([47, 0] : List UInt8).length : Int) = 2 := rfl
  have e1 : (([47, 0] : List UInt8) == []) = false := rfl
  have P0 : Ct Try.prog 92 [.int .i64 (l.length : Int)] [] fun v H' => v = .bool false ∧ H' = [] := by
    (refine spec_enter Try.func92 Try.ntmps92 rfl rfl fun Fr => ?_; dsimp only [List.cons_append, List.nil_append, ini, Nat.reduceAdd])
    (repeat' (first | (apply run_qg 1; (focus rfl); (focus exact wt); (focus rfl); (focus (exact qg1))) | (apply run_qg 4; (focus rfl); (focus exact wt); (focus rfl); (focus (first | exact qg4 | exact qs4))) | refine cod_seq ?_ | refine cod_region ?_ | refine run_nil ?_ | refine pst_then ?_ | refine cod_ret ?_))
    exact pst_fin rfl (by exact resa) _ (⟨rfl, rfl⟩) (by exact hsa)
  (refine spec_enter Try.func79 Try.ntmps79 rfl rfl fun Fr => ?_; dsimp only [List.cons_append, List.nil_append, ini, Nat.reduceAdd])
  (repeat' (first | (apply run_qg 1; (focus rfl); (focus exact wt); (focus rfl); (focus (exact qg1))) | (apply run_qg 4; (focus rfl); (focus exact wt); (focus rfl); (focus (first | exact qg4 | exact qs4))) | (apply run_qg 6; (focus rfl); (focus exact wt); (focus rfl); (focus (first | exact qs6 | exact qg6 | exact q_max rfl rfl rfl | exact q_sliceData rfl rfl (by omega) | exact q_sliceDataN rfl rfl | exact q_unsafeStringN rfl rfl rfl | exact q_cap_slice rfl rfl))) | refine cod_seq ?_ | refine cod_region ?_ | refine run_nil ?_ | refine pst_then ?_ | (apply cod_cond_f; (focus rfl)) | refine cod_skip ?_ | (apply run_osg 7; (focus rfl); (focus exact wt); (focus rfl); (focus (exact opr_call_ls (by rfl) (P0 ..) (by rfl) lpa)); (rintro _ _ ⟨rfl, rfl⟩))))
  (refine run_os wt rfl (opr_range rfl rfl) ?_; rintro _ _ ⟨b, rfl, rfl⟩)
  (repeat' (first | refine run_nil ?_ | refine pst_then ?_ | refine cod_block ?_))
  (refine cod_loop_rw (σ := Nat) (fun p => p ≤ l.length ∧ ∀ j, j < p → (l.getD j 0) ≠ 47 ∧ (l.getD j 0) ≠ 0) (fun p => []) (fun p => [iter b l p]) _ (fun p => l.length - p) (0) (by exact ⟨Nat.zero_le _, fun j h => absurd h (by omega)⟩) (by exact fsa) (by (first | exact HSub.of_picks_rest (by exact pca))) (fun p ⟨hp, hd⟩ => ?_); dsimp only [List.cons_append, List.nil_append])
  rcases Nat.lt_or_ge p l.length with hlt | hge
  · obtain ⟨f1, f2, f3, f4, f5⟩ := rune_facts hlt
    have f6 := rune_le l p
    have I0 := irune_any (runeAt l p) (by omega) (by omega) (by rcases f5 with h | h | h; exact .inl (by omega); exact .inr (.inl (by omega)); exact .inr (.inr h))
    (repeat' (first | refine cod_seq ?_ | refine cod_region ?_))
    (refine run_os wt rfl (opr_next rfl rfl pka hlt) ?_; rintro _ _ ⟨rfl, rfl⟩)
    by_cases hb : runeAt l p = 47 ∨ runeAt l p = 0
    · obtain ⟨g1, g2⟩ := f3 (by omega)
      obtain ⟨r, hr, hr0⟩ : ∃ r : Int, (if (runeAt l p : Int) = 47 then (0 : Int) else if (runeAt l p : Int) = 0 then 1 else -1) = r ∧ 0 ≤ r := by
        rcases hb with h | h
        · exact ⟨0, by rw [h]; rfl, by decide⟩
        · exact ⟨1, by rw [h]; rfl, by decide⟩
      rw [hr] at I0
      have hm : (47 ∈ l ∨ 0 ∈ l) := by
        have hg := getD_mem hlt
        rcases hb with h | h
        · exact .inl (by rwa [show l.getD p 0 = 47 from UInt8.toNat_inj.1 (by rw [g2, h]; rfl)] at hg)
        · exact .inr (by rwa [show l.getD p 0 = 0 from UInt8.toNat_inj.1 (by rw [g2, h]; rfl)] at hg)
      clear hr hb f3 f4 f5
      (repeat' (first | (apply run_qg 1; (focus rfl); (focus exact wt); (focus rfl); (focus (exact qg1))) | (apply run_qg 4; (focus rfl); (focus exact wt); (focus rfl); (focus (first | exact qg4 | exact qs4))) | refine cod_seq ?_ | refine cod_region ?_ | refine run_nil ?_ | refine pst_then ?_ | (apply cod_cond_t; (focus rfl)) | refine cod_block ?_ | refine cod_ret ?_ | refine cod_skip ?_ | refine pst_block_ret ?_ | refine pst_then_ret ?_ | (apply run_osg 7; (focus rfl); (focus exact wt); (focus rfl); (focus (exact opr_call_ls (by rfl) (I0 ..) (by rfl) lpa)); (rintro _ _ ⟨rfl, rfl⟩))))
      exact pst_fin rfl (by exact resa) _ (⟨(p : Int), ⟨fun _ => hm, fun _ => by omega⟩, rfl, rfl⟩) (by exact hsa)
    · have hr : (if (runeAt l p : Int) = 47 then (0 : Int) else if (runeAt l p : Int) = 0 then 1 else -1) = -1 := by rw [if_neg (by omega), if_neg (by omega)]
      rw [hr] at I0
      have hn : ∀ k, k < wideAt l p → (l.getD (p + k) 0) ≠ 47 ∧ (l.getD (p + k) 0) ≠ 0 := by
        intro k hk
        by_cases h128 : runeAt l p < 128
        · obtain ⟨g1, g2⟩ := f3 h128
          have : k = 0 := by omega
          subst this
          rw [Nat.add_zero]
          refine ⟨fun h => hb (.inl ?_), fun h => hb (.inr ?_)⟩
          · rw [← g2, h]; rfl
          · rw [← g2, h]; rfl
        · have g := f4 (by omega) k hk
          refine ⟨fun h => ?_, fun h => ?_⟩
          · rw [h] at g; exact absurd g (by decide)
          · rw [h] at g; exact absurd g (by decide)
      clear hr hb f3 f4 f5
      (repeat' (first | (apply run_qg 1; (focus rfl); (focus exact wt); (focus rfl); (focus (exact qg1))) | (apply run_qg 4; (focus rfl); (focus exact wt); (focus rfl); (focus (first | exact qg4 | exact qs4))) | refine cod_seq ?_ | refine cod_region ?_ | refine run_nil ?_ | refine pst_then ?_ | (apply cod_cond_t; (focus rfl)) | (apply cod_cond_f; (focus rfl)) | refine cod_block ?_ | refine cod_skip ?_ | refine pst_block ?_ | (apply run_osg 7; (focus rfl); (focus exact wt); (focus rfl); (focus (exact opr_call_ls (by rfl) (I0 ..) (by rfl) lpa)); (rintro _ _ ⟨rfl, rfl⟩))))
      refine pst_again (p + wideAt l p) ?_ (FSub.of (by (try dsimp only); exact fsa)) (by (try dsimp only); exact hsa) ?_
      · refine ⟨f2, fun j hj => ?_⟩
        rcases Nat.lt_or_ge j p with h | h
        · exact hd j h
        · have := hn (j - p) (by omega)
          rwa [show p + (j - p) = j from by omega] at this
      · show l.length - (p + wideAt l p) < l.length - p
        omega
  · have hm : ¬ (47 ∈ l ∨ 0 ∈ l) := by
      rintro (h | h)
      · rw [← List.take_length (l := l)] at h
        obtain ⟨j, h1, h2, h3⟩ := mem_take_getD h
        exact (hd j (by omega)).1 h3
      · rw [← List.take_length (l := l)] at h
        obtain ⟨j, h1, h2, h3⟩ := mem_take_getD h
        exact (hd j (by omega)).2 h3
    (repeat' (first | refine cod_seq ?_ | refine cod_region ?_))
    (refine run_os wt rfl (opr_next_end rfl rfl pka hge) ?_; rintro _ _ ⟨rfl, rfl⟩)
    (repeat' (first | (apply run_qg 1; (focus rfl); (focus exact wt); (focus rfl); (focus (exact qg1))) | refine cod_seq ?_ | refine cod_region ?_ | refine run_nil ?_ | refine pst_then ?_ | (apply cod_cond_f; (focus rfl)) | refine cod_exit ?_ | refine cod_ret ?_ | refine pst_block_here ?_ | refine pst_then_exit ?_))
    exact pst_fin rfl (by exact resa) _ (⟨-1, ⟨fun h => absurd h (by decide), fun h => absurd h hm⟩, rfl, rfl⟩) (by exact hsa)
theorem iany_long (l : List UInt8) (h8 : 8 < l.length) (hs : l.length < 4294967281) :
    Ct Try.prog 79 [.string (str l), .string (str [47, 0])] [] fun v H' => ∃ r : Int, (0 ≤ r ↔ (47 ∈ l ∨ 0 ∈ l)) ∧ v = .int .i64 r ∧ H' = [] :=
  ct_imp (ct_of_calls fun w _ => (Any.strings_IndexAny_long { Try.lays150 with } (zero_of_info (n := 256) (by kernel_rfl)).1 (by kernel_rfl) (str l) (str [47, 0]) w (by decide) (by rw [str_size]; exact h8) (by rw [str_size]; exact hs) (by decide) (fun j c hj => by
    match j, hj with
    | 0, hj => cases hj; decide
    | 1, hj => cases hj; decide
    | j + 2, hj => cases hj)).mono fun e w' ⟨h1, h2⟩ => ⟨h1, by rw [h2]; exact ((Below.refl _ _).alloc (Nat.le_refl _) _).alloc (by simp) _⟩) fun v H' ⟨h1, h2⟩ => ⟨_, indexAny_iff l, h1, h2⟩
theorem iany_any (l : List UInt8) (hs : l.length < 4294967281) :
    Ct Try.prog 79 [.string (str l), .string (str [47, 0])] [] fun v H' => ∃ r : Int, (0 ≤ r ↔ (47 ∈ l ∨ 0 ∈ l)) ∧ v = .int .i64 r ∧ H' = [] := by
  rcases Nat.lt_or_ge 8 l.length with h | h
  · exact iany_long l h hs
  · exact iany_short l h
set_option maxRecDepth 100000 in
set_option maxHeartbeats 8000000 in
theorem cany_any (l : List UInt8) (hs : l.length < 4294967281) :
    Ct Try.prog 62 [.string (str l), .string (str [47, 0])] [] fun v H' => v = .bool (hasBad l) ∧ H' = [] := by
  have I0 := iany_any l hs
  unfold hasBad
  by_cases h : 47 ∈ l ∨ 0 ∈ l
  · rw [decide_eq_true h]
    (refine spec_enter Try.func62 Try.ntmps62 rfl rfl fun Fr => ?_; dsimp only [List.cons_append, List.nil_append, ini, Nat.reduceAdd])
    (repeat' (first | (apply run_qg 1; (focus rfl); (focus exact wt); (focus rfl); (focus (exact qg1))) | refine cod_seq ?_ | refine cod_region ?_ | refine run_nil ?_ | refine pst_then ?_))
    (refine run_os wt rfl (opr_call_l rfl (I0) rfl (by exact lpa)) ?_; rintro _ _ ⟨_, ⟨r, hr, rfl, rfl⟩, rfl⟩; try dsimp only [List.cons_append, List.nil_append])
    have hr0 := hr.2 h
    clear hr
    (repeat' (first | (apply run_qg 1; (focus rfl); (focus exact wt); (focus rfl); (focus (exact qg1))) | (apply run_qg 4; (focus rfl); (focus exact wt); (focus rfl); (focus (first | exact qg4 | exact qs4))) | refine run_nil ?_ | refine pst_then ?_ | refine cod_ret ?_))
    exact pst_fin rfl (by exact resa) _ (⟨rfl, rfl⟩) (by exact hsa)
  · rw [decide_eq_false h]
    (refine spec_enter Try.func62 Try.ntmps62 rfl rfl fun Fr => ?_; dsimp only [List.cons_append, List.nil_append, ini, Nat.reduceAdd])
    (repeat' (first | (apply run_qg 1; (focus rfl); (focus exact wt); (focus rfl); (focus (exact qg1))) | refine cod_seq ?_ | refine cod_region ?_ | refine run_nil ?_ | refine pst_then ?_))
    (refine run_os wt rfl (opr_call_l rfl (I0) rfl (by exact lpa)) ?_; rintro _ _ ⟨_, ⟨r, hr, rfl, rfl⟩, rfl⟩; try dsimp only [List.cons_append, List.nil_append])
    have hr0 : ¬ 0 ≤ r := fun h2 => h (hr.1 h2)
    clear hr
    (repeat' (first | (apply run_qg 1; (focus rfl); (focus exact wt); (focus rfl); (focus (exact qg1))) | (apply run_qg 4; (focus rfl); (focus exact wt); (focus rfl); (focus (first | exact qg4 | exact qs4))) | refine run_nil ?_ | refine pst_then ?_ | refine cod_ret ?_))
    exact pst_fin rfl (by exact resa) _ (⟨rfl, rfl⟩) (by exact hsa)
end Go.Proofs.Ytknclflgghnojaa.nam
