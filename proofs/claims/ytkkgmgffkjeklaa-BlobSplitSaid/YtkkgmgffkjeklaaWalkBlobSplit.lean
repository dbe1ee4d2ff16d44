/-
  BlobSplit: the walk.
-/
import Derived.Test.YtkkgmgffkjeklaaSplitLaw
import Derived.Test.YtkkgmgffkjeklaaRowN
namespace Go.Proofs.Ytkkgmgffkjeklaa.lawBlobSplit
open Go.RowKit kit sl Go.Proofs.Ytkkgmgffkjeklaa.blob
set_option linter.unusedVariables false
theorem slice_shapeC {w : World} {sz : Nat} {v : Value} {rows : List (List Value)} (h : SliceAt w sz v rows) : ∃ q c, v = .slice q rows.length c ∧ rows.length ≤ c := by
  rcases h with ⟨h0, h1⟩ | ⟨b, off, cap, rfl, h2, _⟩
  · subst h0
    rcases h1 with rfl | ⟨q, c, rfl⟩
    · exact ⟨_, _, rfl, Nat.zero_le _⟩
    · exact ⟨_, _, rfl, Nat.zero_le _⟩
  · exact ⟨_, _, rfl, h2⟩
theorem segs_len {l : List Blob} : ∀ (ns : List Int) (a : Nat), Segs l ns a → ns.length + a ≤ l.length := by
  intro ns
  induction ns with
  | nil => intro a h; have : a = l.length := h; simp; omega
  | cons x ns ih =>
    intro a h
    obtain ⟨n, _, h1, h2, _, h3⟩ := h
    have := ih _ h3
    rw [List.length_cons]; omega
/-- before k: the least of those from j on -/
def InB (l : List Blob) (B : Nat → Nat) (i j b : Nat) : Prop := (j = i ∧ b = 1073741824 ∨ j < i ∧ ∃ k, k < i ∧ fits (sub l k i) ∧ b = B k + 1) ∧ b ≤ 1073741824 ∧ ∀ k, j ≤ k → k < i → fits (sub l k i) → b ≤ B k + 1
theorem few_next {l : List Blob} {B : Nat → Nat} {i j b : Nat} (h1 : 1 ≤ i) (hi : i ≤ l.length) (h : Few l B (i - 1)) (hb : InB l B i j b) (hj : j < i) (hend : j = 0 ∨ 40 < i - (j - 1)) : Few l (upd1 B i b) i := by
  obtain ⟨g1, g2⟩ := h
  refine ⟨by rw [upd1_ne _ _ (by omega)]; exact g1, fun t ht1 ht2 => ?_⟩
  rcases (by omega : t = i ∨ t ≤ i - 1) with rfl | ht
  · obtain ⟨k1, _, k3⟩ := hb
    rcases k1 with ⟨e, _⟩ | ⟨_, k, e1, e2, e3⟩
    · omega
    · refine ⟨⟨k, e1, e2, by rw [upd1_at, upd1_ne _ _ (by omega)]; exact e3⟩, fun k' hk' hf => ?_⟩
      rw [upd1_at, upd1_ne _ _ (by omega)]
      rcases Nat.lt_or_ge k' j with h | h
      · exfalso
        have := hf.1
        rw [sub_len l (by omega) hi] at this
        omega
      · exact k3 k' h hk' hf
  · obtain ⟨⟨k, e1, e2, e3⟩, e4⟩ := g2 t ht1 ht
    refine ⟨⟨k, e1, e2, by rw [upd1_ne _ _ (by omega), upd1_ne _ _ (by omega)]; exact e3⟩, fun k' hk' hf => ?_⟩
    rw [upd1_ne _ _ (by omega), upd1_ne _ _ (by omega)]
    exact e4 k' hk' hf
theorem few_bd {l : List Blob} {B : Nat → Nat} (h1 : ∀ i, i < l.length → fits (sub l i (i + 1))) : ∀ (m : Nat), m ≤ l.length → Few l B m → ∀ i, i ≤ m → B i ≤ i := by
  intro m hm h i
  induction i with
  | zero => intro _; rw [h.1]; exact Nat.le_refl _
  | succ i ih =>
    intro hi
    have := (h.2 (i + 1) (by omega) hi).2 i (by omega) (h1 i (by omega))
    have := ih (by omega)
    omega
theorem single {l : List Blob} (hr : ∀ p ∈ l, blobE p = 0) {i : Nat} (h : i < l.length) : fits (sub l i (i + 1)) := by
  have hp : l[i]? = some l[i] := List.getElem?_eq_getElem h
  have hob := oneB_bd (blobE_zero (hr _ (List.getElem_mem h))).2.2.2.2.2.2
  rw [sub_next l (Nat.le_refl i) hp, sub_self]
  refine ⟨by simp, ?_⟩
  rw [body_snoc]
  show 0 + _ ≤ 998
  omega
theorem sub_mem {l : List Blob} (hr : ∀ p ∈ l, blobE p = 0) (k i : Nat) : ∀ p ∈ sub l k i, blobE p = 0 := fun p hp => hr p (List.mem_of_mem_take (List.mem_of_mem_drop hp))
theorem split_is (q : Option Addr) (c : Nat) {l : List Blob} (hl : l.length ≤ 10000000000000) {m : Nat} (hm : l.length = m) {ns : List Int} {e : Int} (h : splitV l = (ns, e)) :
    Ct Try.prog 12 [.slice q m c] [sl 4 (.slice q m c) (l.map fBl)] fun v H' => ∃ q2 c2, v = .tuple #[.slice q2 ns.length c2, .int .i64 e] ∧ H' = [own (.slice q2 ns.length c2) 3 1 ns.length (flat fI ns)] := by
  subst hm
  have := split_any q c l hl
  rwa [h] at this
theorem write_is (q : Option Addr) (c : Nat) {l : List Blob} {m : Nat} (hm : l.length = m) (hl : l.length ≤ 1000) (h : writeE l = 0) :
    Ct Try.prog 13 [.slice q m c, .bool true] [sl 4 (.slice q m c) (l.map fBl)] fun v H' => v = .tuple #[.string (str (writeS l true)), .int .i64 0] ∧ H' = [] := by
  subst hm
  have := write_any q c l true (by unfold maxLen; omega)
  rwa [h] at this
theorem blobs_is (q : Option Addr) (c : Nat) {l : List Blob} {k i : Nat} (hr : ∀ p ∈ l, blobE p = 0) (hk : k ≤ i) (hi : i ≤ l.length) (hm : i - k ≤ 1000) {e : Int} (he : (if fits (sub l k i) then (0 : Int) else 2) = e) :
    Ct Try.prog 38 [.slice q (i - k) c, .bool false] [sl 4 (.slice q (i - k) c) ((sub l k i).map fBl)] fun v H' => ∃ t, v = .tuple #[.string (str t), .int .i64 e] ∧ H' = [] := by
  have := rblobs_any q c (sub l k i) (i - k) (sub_len l hk hi) (sub_mem hr k i) hm
  rwa [he] at this
attribute [local irreducible] box own sl old bptr eptr Qt Opr Run Cod Pst Drn
set_option maxRecDepth 100000 in
set_option maxHeartbeats 8000000 in
theorem few_any (q : Option Addr) (c : Nat) (l : List Blob) (hr : ∀ p ∈ l, blobE p = 0) (hl : l.length ≤ 60) (hc : l.length ≤ c) :
    Ct Try.prog 14 [.slice q l.length c] [sl 4 (.slice q l.length c) (l.map fBl)] fun v H' => ∃ B, Few l B l.length ∧ v = .int .i64 ((B l.length : Nat) : Int) ∧ H' = [] := by
  obtain ⟨N, hN⟩ : ∃ N, l.length = N := ⟨_, rfl⟩
  rw [hN] at hl hc ⊢
  have h1f := fun i (h : i < l.length) => single hr h
  (refine spec_enter Try.func14 Try.ntmps14 rfl rfl fun Fr => ?_; dsimp only [List.cons_append, List.nil_append, ini, Nat.reduceAdd])
  (repeat' (first | (apply run_qg 1; (focus rfl); (focus exact wt); (focus rfl); (focus (exact qg1))) | (apply run_qg 4; (focus rfl); (focus exact wt); (focus rfl); (focus (first | exact qg4 | exact qs4))) | (apply run_qg 6; (focus rfl); (focus exact wt); (focus rfl); (focus (first | exact qs6 | exact qg6 | exact q_max rfl rfl rfl | exact q_sliceData rfl rfl (by omega) | exact q_sliceDataN rfl rfl | exact q_unsafeStringN rfl rfl rfl | exact q_cap_slice rfl rfl))) | refine cod_seq ?_ | refine cod_region ?_ | refine run_nil ?_ | refine pst_then ?_))
  refine run_os wt rfl (opr_make (fI) (0) (c := (N + 1)) rfl rfl rfl (by first | rfl | omega) (by first | rfl | omega) rfl rfl (by omega) (by (unfold maxLen); omega)) ?_
  rintro _ _ ⟨q1, rfl, rfl⟩
  rw [rowN_zero]
  (repeat' (first | (apply run_qg 1; (focus rfl); (focus exact wt); (focus rfl); (focus (exact qg1))) | refine cod_seq ?_ | refine cod_region ?_ | refine run_nil ?_ | refine pst_then ?_ | refine cod_block ?_))
  (refine cod_loop_rw (σ := Nat × (Nat → Nat)) (fun x => (1 ≤ x.1 ∧ x.1 ≤ N + 1) ∧ Few l x.2 (x.1 - 1)) (fun x => [(4, .int .i64 (x.1 : Int))]) (fun x => [own (.slice q1 (N + 1) (N + 1)) 3 1 (N + 1) (flat fI (rowN (N + 1) x.2))]) _ (fun x => N + 1 - x.1) ((1, fun _ => 0)) (by exact ⟨⟨Nat.le_refl _, Nat.le_add_left _ _⟩, rfl, fun i h1 h2 => by have : i ≤ 0 := h2; omega⟩) (by exact fsa) (by (first | exact HSub.of_picks_rest (by exact pca))) (fun ⟨i, B⟩ ⟨⟨hi1, hi2⟩, hB⟩ => ?_); dsimp only [List.cons_append, List.nil_append])
  dsimp only at hi1 hi2 hB ⊢
  rcases Nat.lt_or_ge N i with hlt | hge
  · have hiN : i - 1 = N := by omega
    rw [hiN] at hB
    have gN : (rowN (N + 1) B)[N]? = some ((B N : Nat) : Int) := rowN_at _ (by omega)
    (repeat' (first | (apply run_qg 1; (focus rfl); (focus exact wt); (focus rfl); (focus (exact qg1))) | (apply run_qg 2; (focus rfl); (focus exact wt); (focus rfl); (focus (first | exact qg2 | exact qs2))) | (apply run_qg 3; (focus rfl); (focus exact wt); (focus rfl); (focus (first | exact qg3 | exact qs3))) | (apply run_qg 4; (focus rfl); (focus exact wt); (focus rfl); (focus (first | exact qg4 | exact qs4))) | (apply run_qg 6; (focus rfl); (focus exact wt); (focus rfl); (focus (first | exact qs6 | exact qg6 | exact q_max rfl rfl rfl | exact q_sliceData rfl rfl (by omega) | exact q_sliceDataN rfl rfl | exact q_unsafeStringN rfl rfl rfl | exact q_cap_slice rfl rfl))) | refine cod_seq ?_ | refine cod_region ?_ | refine run_nil ?_ | refine pst_then ?_ | (apply cod_cond_f; (focus rfl)) | refine cod_exit ?_ | refine cod_ret ?_ | refine pst_block_here ?_ | refine pst_then_exit ?_))
    exact pst_fin rfl (by exact resa) _ (⟨B, hB, rfl, rfl⟩) (by exact hsa)
  · have gi : (rowN (N + 1) B)[i]? = some ((B i : Nat) : Int) := rowN_at _ (by omega)
    have hBb := few_bd h1f (i - 1) (by omega) hB
    (repeat' (first | (apply run_qg 1; (focus rfl); (focus exact wt); (focus rfl); (focus (exact qg1))) | (apply run_qg 3; (focus rfl); (focus exact wt); (focus rfl); (focus (first | exact qg3 | exact qs3))) | (apply run_qg 4; (focus rfl); (focus exact wt); (focus rfl); (focus (first | exact qg4 | exact qs4))) | (apply run_qg 6; (focus rfl); (focus exact wt); (focus rfl); (focus (first | exact qs6 | exact qg6 | exact q_max rfl rfl rfl | exact q_sliceData rfl rfl (by omega) | exact q_sliceDataN rfl rfl | exact q_unsafeStringN rfl rfl rfl | exact q_cap_slice rfl rfl))) | refine cod_seq ?_ | refine cod_region ?_ | refine run_nil ?_ | refine pst_then ?_ | (apply cod_cond_t; (focus rfl)) | refine cod_block ?_ | refine cod_skip ?_))
    (refine run_on wt (opr_store_ownm (f := fI) (q' := ((1073741824 : Nat) : Int)) rfl rfl rfl rfl (by exact pka) rfl (by omega) (by intro _; rfl) (by assumption) rfl rfl (by rfl)) ?_; rintro _ _ ⟨rfl, rfl⟩)
    rw [rowN_set _ _ (by omega)]
    (repeat' (first | (apply run_qg 1; (focus rfl); (focus exact wt); (focus rfl); (focus (exact qg1))) | (apply run_qg 4; (focus rfl); (focus exact wt); (focus rfl); (focus (first | exact qg4 | exact qs4))) | refine cod_seq ?_ | refine cod_region ?_ | refine run_nil ?_ | refine pst_then ?_ | refine cod_block ?_))
    (refine cod_loop_rw (σ := Nat × Nat) (fun x => x.1 ≤ i ∧ InB l B i x.1 x.2) (fun x => [(5, .int .i64 ((x.1 : Int) - 1))]) (fun x => [own (.slice q1 (N + 1) (N + 1)) 3 1 (N + 1) (flat fI (rowN (N + 1) (upd1 B i x.2)))]) _ (fun x => x.1) ((i, 1073741824)) (by exact ⟨Nat.le_refl _, .inl ⟨rfl, rfl⟩, Nat.le_refl _, fun k h1 h2 => by have : i ≤ k := h1; omega⟩) (by exact fsa) (by (first | exact HSub.of_picks_rest (by exact pca))) (fun ⟨j, b⟩ ⟨hji, hb⟩ => ?_); dsimp only [List.cons_append, List.nil_append])
    dsimp only at hji hb ⊢
    by_cases hend : j = 0 ∨ 40 < i - (j - 1)
    · have hjlt : j < i := by omega
      (repeat' (first | (apply run_qg 1; (focus rfl); (focus exact wt); (focus rfl); (focus (exact qg1))) | (apply run_qg 4; (focus rfl); (focus exact wt); (focus rfl); (focus (first | exact qg4 | exact qs4))) | refine cod_seq ?_ | refine cod_region ?_ | refine run_nil ?_ | refine pst_then ?_ | (apply cod_cond_f; (focus rfl)) | refine cod_exit ?_ | refine pst_block_here ?_ | refine pst_then_exit ?_ | refine pst_block ?_ | (apply run_offs; (focus rfl); (focus rfl); (focus rfl)) | ((first | (apply run_lss; (rotate_left 2); (focus rfl)) | (apply run_leq; (rotate_left 2); (focus rfl)) | (apply run_gtr; (rotate_left 2); (focus rfl)) | (apply run_geq; (rotate_left 2); (focus rfl)) | (apply run_eql; (rotate_left 2); (focus rfl)) | (apply run_neq; (rotate_left 2); (focus rfl)) | (apply run_seq; (rotate_left 2); (focus rfl)) | (apply run_sneq; (rotate_left 2); (focus rfl))); (focus rfl); (focus rfl); (rotate_right 2); (focus exact wt); (focus rfl); (all_goals (intro h; dsimp only [upd])))))
      all_goals
        refine pst_again ((i + 1, upd1 B i b)) ?_ (FSub.of (by (try dsimp only); exact fsa)) (by (try dsimp only); exact hsa) ?_
        · exact ⟨by omega, few_next hi1 (by omega) hB hb hjlt hend⟩
        · dsimp only; omega
    · obtain ⟨k, rfl⟩ : ∃ k, j = k + 1 := ⟨j - 1, by omega⟩
      have hj : ((k + 1 : Nat) : Int) - 1 = (k : Int) := by omega
      have gbi : (rowN (N + 1) (upd1 B i b))[i]? = some (b : Int) := by rw [rowN_at _ (by omega), upd1_at]
      have gbk : (rowN (N + 1) (upd1 B i b))[k]? = some ((B k : Nat) : Int) := by rw [rowN_at _ (by omega), upd1_ne _ _ (by omega)]
      have hBk := hBb k (by omega)
      have hbm := hb.2.1
      rw [hj]
      by_cases hf : fits (sub l k i)
      · have BL := fun q c => blobs_is q c hr (show k ≤ i by omega) (by omega) (by omega) (if_pos hf)
        obtain ⟨m, hm⟩ : ∃ m : Nat, m = min b (B k + 1) := ⟨_, rfl⟩
        have hmin : min (b : Int) (((B k : Nat) : Int) + 1) = (m : Int) := by omega
        have hin : InB l B i k m := by
          refine ⟨.inr ⟨by omega, ?_⟩, by omega, fun k' h1 h2 h3 => ?_⟩
          · rcases (by omega : m = B k + 1 ∨ m = b ∧ b ≤ B k) with h | ⟨h, h2⟩
            · exact ⟨k, by omega, hf, h⟩
            · rcases hb.1 with ⟨_, e⟩ | ⟨_, k2, e1, e2, e3⟩
              · omega
              · exact ⟨k2, e1, e2, by omega⟩
          · rcases (by omega : k' = k ∨ k + 1 ≤ k') with rfl | h
            · omega
            · have := hb.2.2 k' h h2 h3; omega
        (repeat' (first | (apply run_qg 1; (focus rfl); (focus exact wt); (focus rfl); (focus (exact qg1))) | (apply run_qg 4; (focus rfl); (focus exact wt); (focus rfl); (focus (first | exact qg4 | exact qs4))) | refine cod_seq ?_ | refine cod_region ?_ | refine run_nil ?_ | refine pst_then ?_ | (apply cod_cond_t; (focus rfl)) | refine cod_block ?_ | refine cod_skip ?_))
        refine run_qs wt rfl (q_slice_lh (i := k) (h := i) rfl rfl rfl rfl rfl rfl (by omega) (by omega)) ?_
        rw [sliced_sub]
        refine run_heap (sl_sub (i := k) (h := i) pka (by omega) (by omega)) ?_
        (refine run_os wt rfl (opr_call_l rfl (BL _ _) rfl (by exact lpa)) ?_; rintro _ _ ⟨_, ⟨t, rfl, rfl⟩, rfl⟩; dsimp only [List.cons_append, List.nil_append])
        (repeat' (first | (apply run_qg 1; (focus rfl); (focus exact wt); (focus rfl); (focus (exact qg1))) | (apply run_qg 4; (focus rfl); (focus exact wt); (focus rfl); (focus (first | exact qg4 | exact qs4))) | refine cod_seq ?_ | refine cod_region ?_ | refine run_nil ?_ | refine pst_then ?_ | (apply cod_cond_t; (focus rfl))))
        (refine cod_drawn_ks (Hq := [_]) [1] [13] rfl (by kernel_rfl) (by simp only [List.length_cons, List.length_nil, Nat.reduceAdd]; rfl) ?_)
        (repeat' (first | (apply drnK_take 1; (focus rfl); (focus rfl); (focus exact wt); (focus (decide +kernel)); (focus exact hsq); (focus rfl); (focus (exact qg1))) | (apply drnK_take 2; (focus rfl); (focus rfl); (focus exact wt); (focus (decide +kernel)); (focus exact hsq); (focus rfl); (focus (first | exact qg2 | exact qs2))) | (apply drnK_take 3; (focus rfl); (focus rfl); (focus exact wt); (focus (decide +kernel)); (focus exact hsq); (focus rfl); (focus (first | exact qg3 | exact qs3))) | (apply drnK_take 4; (focus rfl); (focus rfl); (focus exact wt); (focus (decide +kernel)); (focus exact hsq); (focus rfl); (focus (first | exact qg4 | exact qs4))) | (apply drnK_take 6; (focus rfl); (focus rfl); (focus exact wt); (focus (decide +kernel)); (focus exact hsq); (focus rfl); (focus (first | exact qs6 | exact qg6 | exact q_max rfl rfl rfl | exact q_sliceData rfl rfl (by omega) | exact q_sliceDataN rfl rfl | exact q_unsafeStringN rfl rfl rfl | exact q_cap_slice rfl rfl))) | (apply drnK_done; (focus (decide +kernel))) | (apply drnK_skip; (focus rfl)) | (apply drnK_wrap; (focus rfl))))
        rw [hmin]
        (refine drnK_at 13 ?_; (first | refine drnK_ones _ (by rfl) (by rfl) (by kernel_rfl) wt (by rfl) (by exact (opr_store_ownm (f := fI) (q' := (m : Int)) rfl rfl rfl rfl (by exact pka) rfl (by omega) (by intro _; rfl) (by assumption) rfl rfl (by rfl))) ?_ | refine drnK_onen _ (by rfl) (by rfl) (by kernel_rfl) wt (by exact (opr_store_ownm (f := fI) (q' := (m : Int)) rfl rfl rfl rfl (by exact pka) rfl (by omega) (by intro _; rfl) (by assumption) rfl rfl (by rfl))) ?_); rintro _ _ ⟨rfl, rfl⟩; refine ⟨(by first | exact fun h => absurd h (by decide) | exact fun _ => hsq), ?_⟩; (try dsimp only [List.cons_append, List.nil_append]))
        rw [rowN_set _ _ (by omega), upd1_upd1]
        (repeat' (first | (apply run_qg 1; (focus rfl); (focus exact wt); (focus rfl); (focus (exact qg1))) | (apply run_qg 4; (focus rfl); (focus exact wt); (focus rfl); (focus (first | exact qg4 | exact qs4))) | refine cod_region ?_ | refine run_nil ?_ | refine pst_then ?_ | refine pst_block ?_ | (apply drnK_end; (focus (decide +kernel)))))
        refine pst_again ((k, m)) ?_ (FSub.of (by (try dsimp only); exact fsa)) (by (try dsimp only); exact hsa) ?_
        · exact ⟨by dsimp only; omega, hin⟩
        · dsimp only; omega
      · have BL := fun q c => blobs_is q c hr (show k ≤ i by omega) (by omega) (by omega) (if_neg hf)
        have hki : k + 1 < i := by
          rcases (by omega : k + 1 < i ∨ k + 1 = i) with h | h
          · exact h
          · exfalso
            have := h1f k (by omega)
            rw [h] at this
            exact hf this
        have hin : InB l B i k b := by
          refine ⟨.inr ⟨by omega, ?_⟩, hb.2.1, fun k' h1 h2 h3 => ?_⟩
          · rcases hb.1 with ⟨e, _⟩ | ⟨_, h⟩
            · omega
            · exact h
          · rcases (by omega : k' = k ∨ k + 1 ≤ k') with rfl | h
            · exact absurd h3 hf
            · exact hb.2.2 k' h h2 h3
        (repeat' (first | (apply run_qg 1; (focus rfl); (focus exact wt); (focus rfl); (focus (exact qg1))) | (apply run_qg 4; (focus rfl); (focus exact wt); (focus rfl); (focus (first | exact qg4 | exact qs4))) | refine cod_seq ?_ | refine cod_region ?_ | refine run_nil ?_ | refine pst_then ?_ | (apply cod_cond_t; (focus rfl)) | refine cod_block ?_ | refine cod_skip ?_))
        refine run_qs wt rfl (q_slice_lh (i := k) (h := i) rfl rfl rfl rfl rfl rfl (by omega) (by omega)) ?_
        rw [sliced_sub]
        refine run_heap (sl_sub (i := k) (h := i) pka (by omega) (by omega)) ?_
        (refine run_os wt rfl (opr_call_l rfl (BL _ _) rfl (by exact lpa)) ?_; rintro _ _ ⟨_, ⟨t, rfl, rfl⟩, rfl⟩; dsimp only [List.cons_append, List.nil_append])
        (repeat' (first | (apply run_qg 1; (focus rfl); (focus exact wt); (focus rfl); (focus (exact qg1))) | (apply run_qg 4; (focus rfl); (focus exact wt); (focus rfl); (focus (first | exact qg4 | exact qs4))) | refine cod_seq ?_ | refine cod_region ?_ | refine run_nil ?_ | refine pst_then ?_ | (apply cod_cond_f; (focus rfl)) | refine cod_skip ?_ | refine pst_block ?_))
        refine pst_again ((k, b)) ?_ (FSub.of (by (try dsimp only); exact fsa)) (by (try dsimp only); exact hsa) ?_
        · exact ⟨by dsimp only; omega, hin⟩
        · dsimp only; omega
theorem split_lit : splitV [(3, 0, 0, []), (3, 0, 0, [])] = ([2], 0) := by decide +kernel
set_option maxRecDepth 100000 in
set_option maxHeartbeats 8000000 in
theorem equal_I (qa qb : Option Addr) (ca cb : Nat) (xs ys : List (Int)) (hn : xs.length ≤ maxLen) (hm : ys.length ≤ maxLen) :
    Ct Try.prog 11 [.slice qa xs.length ca, .slice qb ys.length cb] [sl 1 (.slice qa xs.length ca) (xs.map fI), sl 1 (.slice qb ys.length cb) (ys.map fI)] fun v H' => v = .bool (decide (xs = ys)) ∧ H' = [] := by
  unfold maxLen at hn hm
  by_cases hl : xs.length = ys.length
  · (refine spec_enter Try.func11 Try.ntmps11 rfl rfl fun Fr => ?_; dsimp only [List.cons_append, List.nil_append, ini, Nat.reduceAdd])
    (repeat' (first | (apply run_qg 1; (focus rfl); (focus exact wt); (focus rfl); (focus (exact qg1))) | (apply run_qg 4; (focus rfl); (focus exact wt); (focus rfl); (focus (first | exact qg4 | exact qs4))) | (apply run_qg 6; (focus rfl); (focus exact wt); (focus rfl); (focus (first | exact qs6 | exact qg6 | exact q_max rfl rfl rfl | exact q_sliceData rfl rfl (by omega) | exact q_sliceDataN rfl rfl | exact q_unsafeStringN rfl rfl rfl | exact q_cap_slice rfl rfl))) | refine cod_seq ?_ | refine cod_region ?_ | refine run_nil ?_ | refine pst_then ?_ | (apply cod_cond_f; (focus rfl)) | refine cod_block ?_ | refine cod_skip ?_))
    (refine cod_loop_ro (σ := Nat) (fun k => k ≤ xs.length ∧ xs.take k = ys.take k) (fun k => [(13, .int .i64 (k : Int))]) (fun k => xs.length - k) (0) (by simp) (by exact fsa) (fun k ⟨hk, ht⟩ => ?_); dsimp only [List.cons_append, List.nil_append])
    rcases get_or xs k with ⟨x, hx, hlt⟩ | hge
    · obtain ⟨y, hy⟩ : ∃ y, ys[k]? = some y := ⟨_, List.getElem?_eq_getElem (by omega)⟩
      by_cases hxy : x = y
      · (repeat' (first | (apply run_qg 1; (focus rfl); (focus exact wt); (focus rfl); (focus (exact qg1))) | (apply run_qg 4; (focus rfl); (focus exact wt); (focus rfl); (focus (first | exact qg4 | exact qs4))) | refine cod_seq ?_ | refine cod_region ?_ | refine run_nil ?_ | refine pst_then ?_ | (apply cod_cond_t; (focus rfl)) | (apply cod_cond_f; (focus rfl)) | refine cod_block ?_ | refine cod_skip ?_ | refine pst_block ?_ | (apply cod_drawn_k; (focus kernel_rfl); (focus (simp only [List.length_cons, List.length_nil, Nat.reduceAdd]; rfl))) | (apply drnK_take 1; (focus rfl); (focus rfl); (focus exact wt); (focus (decide +kernel)); (focus exact hsq); (focus rfl); (focus (exact qg1))) | (apply drnK_take 2; (focus rfl); (focus rfl); (focus exact wt); (focus (decide +kernel)); (focus exact hsq); (focus rfl); (focus (first | exact qg2 | exact qs2))) | (apply drnK_take 3; (focus rfl); (focus rfl); (focus exact wt); (focus (decide +kernel)); (focus exact hsq); (focus rfl); (focus (first | exact qg3 | exact qs3))) | (apply drnK_take 4; (focus rfl); (focus rfl); (focus exact wt); (focus (decide +kernel)); (focus exact hsq); (focus rfl); (focus (first | exact qg4 | exact qs4))) | (apply drnK_end; (focus (decide +kernel)))))
        refine pst_again (k + 1) ?_ (FSub.of (by (try dsimp only); exact fsa)) (by (try dsimp only); exact hsa) ?_
        · exact ⟨by omega, by rw [take_one hx, take_one hy, ht, hxy]⟩
        · show xs.length - (k + 1) < xs.length - k
          omega
      · (repeat' (first | (apply run_qg 1; (focus rfl); (focus exact wt); (focus rfl); (focus (exact qg1))) | (apply run_qg 4; (focus rfl); (focus exact wt); (focus rfl); (focus (first | exact qg4 | exact qs4))) | refine cod_seq ?_ | refine cod_region ?_ | refine run_nil ?_ | refine pst_then ?_ | (apply cod_cond_t; (focus rfl)) | refine cod_block ?_ | refine cod_ret ?_ | refine cod_skip ?_ | refine pst_block_ret ?_ | refine pst_then_ret ?_ | (apply cod_drawn_k; (focus kernel_rfl); (focus (simp only [List.length_cons, List.length_nil, Nat.reduceAdd]; rfl))) | (apply drnK_take 1; (focus rfl); (focus rfl); (focus exact wt); (focus (decide +kernel)); (focus exact hsq); (focus rfl); (focus (exact qg1))) | (apply drnK_take 2; (focus rfl); (focus rfl); (focus exact wt); (focus (decide +kernel)); (focus exact hsq); (focus rfl); (focus (first | exact qg2 | exact qs2))) | (apply drnK_take 3; (focus rfl); (focus rfl); (focus exact wt); (focus (decide +kernel)); (focus exact hsq); (focus rfl); (focus (first | exact qg3 | exact qs3))) | (apply drnK_take 4; (focus rfl); (focus rfl); (focus exact wt); (focus (decide +kernel)); (focus exact hsq); (focus rfl); (focus (first | exact qg4 | exact qs4))) | (apply drnK_end; (focus (decide +kernel)))))
        have hd : decide (xs = ys) = false := by
          rw [decide_eq_false_iff_not]
          intro e
          rw [e, hy] at hx
          exact hxy (Option.some.inj hx).symm
        exact pst_fin rfl (by exact resa) _ (⟨by rw [hd], rfl⟩) (by exact hsa)
    · (repeat' (first | (apply run_qg 1; (focus rfl); (focus exact wt); (focus rfl); (focus (exact qg1))) | (apply run_qg 4; (focus rfl); (focus exact wt); (focus rfl); (focus (first | exact qg4 | exact qs4))) | refine cod_seq ?_ | refine cod_region ?_ | refine run_nil ?_ | refine pst_then ?_ | (apply cod_cond_f; (focus rfl)) | refine cod_exit ?_ | refine cod_ret ?_ | refine pst_block_here ?_ | refine pst_then_exit ?_))
      have hd : decide (xs = ys) = true := by
        rw [decide_eq_true_iff]
        rwa [List.take_of_length_le hge, List.take_of_length_le (by omega)] at ht
      exact pst_fin rfl (by exact resa) _ (⟨by rw [hd], rfl⟩) (by exact hsa)
  · have hd : decide (xs = ys) = false := by
      rw [decide_eq_false_iff_not]
      intro e
      rw [e] at hl
      exact hl rfl
    (refine spec_enter Try.func11 Try.ntmps11 rfl rfl fun Fr => ?_; dsimp only [List.cons_append, List.nil_append, ini, Nat.reduceAdd])
    (repeat' (first | (apply run_qg 1; (focus rfl); (focus exact wt); (focus rfl); (focus (exact qg1))) | (apply run_qg 4; (focus rfl); (focus exact wt); (focus rfl); (focus (first | exact qg4 | exact qs4))) | (apply run_qg 6; (focus rfl); (focus exact wt); (focus rfl); (focus (first | exact qs6 | exact qg6 | exact q_max rfl rfl rfl | exact q_sliceData rfl rfl (by omega) | exact q_sliceDataN rfl rfl | exact q_unsafeStringN rfl rfl rfl | exact q_cap_slice rfl rfl))) | refine cod_seq ?_ | refine cod_region ?_ | refine run_nil ?_ | refine pst_then ?_ | (apply cod_cond_t; (focus rfl)) | refine cod_ret ?_ | refine pst_then_ret ?_))
    exact pst_fin rfl (by exact resa) _ (⟨by rw [hd], rfl⟩) (by exact hsa)

set_option maxRecDepth 100000 in
set_option maxHeartbeats 8000000 in
theorem law_any (q : Option Addr) (c : Nat) (l : List Blob) (hl : l.length ≤ 10000000000000) (hc : l.length ≤ c) :
    Ct Try.prog 4 [.slice q l.length c] [sl 4 (.slice q l.length c) (l.map fBl)] fun v H' => v = .bool true ∧ H' = [] := by
  have S0 := fun q c => split_is q c (by decide) rfl split_lit
  have E1 := fun qa qb ca cb => ct_true (equal_I qa qb ca cb [2] [2] (by decide) (by decide)) rfl
  rcases hs : splitV l with ⟨ns, e⟩
  have S1 := split_is q c hl rfl hs
  by_cases hf : firstE l = 0
  · have hr := firstE_zero.1 hf
    unfold splitV at hs
    rw [if_neg (fun h => h hf)] at hs
    obtain ⟨hseg, hopt⟩ := split_law hr
    have e1 := congrArg Prod.fst hs
    have e2 := congrArg Prod.snd hs
    dsimp only at e1 e2
    rw [e1] at hseg hopt
    subst e2
    clear hs e1
    have hnl := segs_len ns 0 hseg
    have FW := fun h60 => few_any q c l hr h60 hc
    (refine spec_enter Try.func4 Try.ntmps4 rfl rfl fun Fr => ?_; dsimp only [List.cons_append, List.nil_append, ini, Nat.reduceAdd])
    (repeat' (first | (apply run_qg 1; (focus rfl); (focus exact wt); (focus rfl); (focus (exact qg1))) | (apply run_qg 5; (focus rfl); (focus exact wt); (focus rfl); (focus (exact qg5))) | refine cod_seq ?_ | refine cod_region ?_ | refine run_nil ?_ | refine pst_then ?_ | (apply run_osg 10; (focus rfl); (focus exact wt); (focus rfl); (focus (exact opr_buildSlice rfl rfl rfl (by exact blda) rfl rfl (by decide) rfl)); (rintro _ _ ⟨q, rfl, rfl⟩))))
    (refine run_os wt rfl (opr_call_l rfl (S0 _ _) rfl (by exact lpa)) ?_; rintro _ _ ⟨_, ⟨q0, c0, rfl, rfl⟩, rfl⟩; dsimp only [List.cons_append, List.nil_append])
    (repeat' (first | (apply run_qg 1; (focus rfl); (focus exact wt); (focus rfl); (focus (exact qg1))) | (apply run_qg 4; (focus rfl); (focus exact wt); (focus rfl); (focus (first | exact qg4 | exact qs4))) | refine cod_seq ?_ | refine cod_region ?_ | refine run_nil ?_ | refine pst_then ?_ | (apply cod_cond_f; (focus rfl)) | refine cod_skip ?_ | (apply run_osg 10; (focus rfl); (focus exact wt); (focus rfl); (focus (exact opr_buildSlice rfl rfl rfl (by exact blda) rfl rfl (by decide) rfl)); (rintro _ _ ⟨q, rfl, rfl⟩)) | (apply run_osg 7; (focus rfl); (focus exact wt); (focus rfl); (focus (exact opr_call_ls (by rfl) (E1 ..) (by rfl) lpa)); (rintro _ _ ⟨rfl, rfl⟩))))
    (refine run_os wt rfl (opr_call_l rfl (S1) rfl (by exact lpa)) ?_; rintro _ _ ⟨_, ⟨q1, c1, rfl, rfl⟩, rfl⟩; dsimp only [List.cons_append, List.nil_append])
    (repeat' (first | (apply run_qg 1; (focus rfl); (focus exact wt); (focus rfl); (focus (exact qg1))) | (apply run_qg 4; (focus rfl); (focus exact wt); (focus rfl); (focus (first | exact qg4 | exact qs4))) | (apply run_qg 6; (focus rfl); (focus exact wt); (focus rfl); (focus (first | exact qs6 | exact qg6 | exact q_max rfl rfl rfl | exact q_sliceData rfl rfl (by omega) | exact q_sliceDataN rfl rfl | exact q_unsafeStringN rfl rfl rfl | exact q_cap_slice rfl rfl))) | refine cod_seq ?_ | refine cod_region ?_ | refine run_nil ?_ | refine pst_then ?_ | (apply cod_cond_f; (focus rfl)) | refine cod_block ?_ | refine cod_skip ?_))
    (refine cod_loop_ro (σ := Nat × Nat) (fun x => x.1 ≤ ns.length ∧ Segs l (ns.drop x.1) x.2) (fun x => [(39, .int .i64 (x.1 : Int)), (7, .int .i64 (x.2 : Int))]) (fun x => ns.length - x.1) ((0, 0)) (by exact ⟨Nat.zero_le _, hseg⟩) (by exact fsa) (fun ⟨j, a⟩ ⟨hj, hsg⟩ => ?_); dsimp only [List.cons_append, List.nil_append])
    dsimp only at hj hsg ⊢
    rcases Nat.lt_or_ge j ns.length with hlt | hge
    · rw [List.drop_eq_getElem_cons hlt] at hsg
      obtain ⟨n, hx, hn1, hnN, hfit, hnext⟩ := hsg
      have hxs : ns[j]? = some (n : Int) := by rw [List.getElem?_eq_getElem hlt, hx]
      have hsum : (a : Int) + (n : Int) = ((a + n : Nat) : Int) := by omega
      have hn40 := hfit.1
      rw [sub_len l (by omega) hnN] at hn40
      have W1 := fun q c => write_is q c (l := sub l a (a + n)) (sub_len l (by omega) hnN) (by rw [sub_len l (by omega) hnN]; omega) (writeE_fits hfit (sub_mem hr _ _))
      (repeat' (first | (apply run_qg 1; (focus rfl); (focus exact wt); (focus rfl); (focus (exact qg1))) | (apply run_qg 2; (focus rfl); (focus exact wt); (focus rfl); (focus (first | exact qg2 | exact qs2))) | (apply run_qg 3; (focus rfl); (focus exact wt); (focus rfl); (focus (first | exact qg3 | exact qs3))) | (apply run_qg 4; (focus rfl); (focus exact wt); (focus rfl); (focus (first | exact qg4 | exact qs4))) | (apply run_qg 6; (focus rfl); (focus exact wt); (focus rfl); (focus (first | exact qs6 | exact qg6 | exact q_max rfl rfl rfl | exact q_sliceData rfl rfl (by omega) | exact q_sliceDataN rfl rfl | exact q_unsafeStringN rfl rfl rfl | exact q_cap_slice rfl rfl))) | refine cod_seq ?_ | refine cod_region ?_ | refine run_nil ?_ | refine pst_then ?_ | (apply cod_cond_t; (focus rfl)) | (apply cod_cond_f; (focus rfl)) | refine cod_block ?_ | refine cod_skip ?_))
      refine run_qs wt rfl (q_slice_lh (i := a) (h := a + n) rfl rfl rfl rfl rfl hsum (by omega) (by omega)) ?_
      rw [sliced_sub]
      refine run_heap (sl_sub (i := a) (h := a + n) pka (by omega) (by omega)) ?_
      (refine run_os wt rfl (opr_call_l rfl (W1 _ _) rfl (by exact lpa)) ?_; rintro _ _ ⟨_, ⟨rfl, rfl⟩, rfl⟩; dsimp only [List.cons_append, List.nil_append])
      (repeat' (first | (apply run_qg 1; (focus rfl); (focus exact wt); (focus rfl); (focus (exact qg1))) | (apply run_qg 4; (focus rfl); (focus exact wt); (focus rfl); (focus (first | exact qg4 | exact qs4))) | refine cod_seq ?_ | refine cod_region ?_ | refine run_nil ?_ | refine pst_then ?_ | (apply cod_cond_f; (focus rfl)) | refine cod_skip ?_ | refine pst_block ?_))
      rw [hsum]
      refine pst_again ((j + 1, a + n)) ?_ (FSub.of (by (try dsimp only); exact fsa)) (by (try dsimp only); exact hsa) ?_
      · exact ⟨hlt, hnext⟩
      · dsimp only; omega
    · have hjl : j = ns.length := by omega
      subst hjl
      rw [List.drop_length] at hsg
      have hal : a = l.length := hsg
      subst hal
      by_cases h60 : 60 < l.length
      · (repeat' (first | (apply run_qg 1; (focus rfl); (focus exact wt); (focus rfl); (focus (exact qg1))) | (apply run_qg 4; (focus rfl); (focus exact wt); (focus rfl); (focus (first | exact qg4 | exact qs4))) | (apply run_qg 6; (focus rfl); (focus exact wt); (focus rfl); (focus (first | exact qs6 | exact qg6 | exact q_max rfl rfl rfl | exact q_sliceData rfl rfl (by omega) | exact q_sliceDataN rfl rfl | exact q_unsafeStringN rfl rfl rfl | exact q_cap_slice rfl rfl))) | refine cod_seq ?_ | refine cod_region ?_ | refine run_nil ?_ | refine pst_then ?_ | (apply cod_cond_f; (focus rfl)) | refine cod_exit ?_ | refine cod_ret ?_ | refine pst_block_here ?_ | refine pst_then_exit ?_ | (apply run_offs; (focus rfl); (focus rfl); (focus rfl))))
        exact pst_fin rfl (by exact resa) _ (⟨rfl, rfl⟩) (by exact hsa)
      · (repeat' (first | (apply run_qg 1; (focus rfl); (focus exact wt); (focus rfl); (focus (exact qg1))) | (apply run_qg 4; (focus rfl); (focus exact wt); (focus rfl); (focus (first | exact qg4 | exact qs4))) | (apply run_qg 6; (focus rfl); (focus exact wt); (focus rfl); (focus (first | exact qs6 | exact qg6 | exact q_max rfl rfl rfl | exact q_sliceData rfl rfl (by omega) | exact q_sliceDataN rfl rfl | exact q_unsafeStringN rfl rfl rfl | exact q_cap_slice rfl rfl))) | refine cod_seq ?_ | refine cod_region ?_ | refine run_nil ?_ | refine pst_then ?_ | (apply cod_cond_f; (focus rfl)) | refine cod_exit ?_ | refine pst_block_here ?_ | refine pst_then_exit ?_))
        (refine run_os wt rfl (opr_call_l rfl (FW (by omega)) rfl (by exact lpa)) ?_; rintro _ _ ⟨_, ⟨B, hB, rfl, rfl⟩, rfl⟩; dsimp only [List.cons_append, List.nil_append])
        have hBl := hopt B hB
        (repeat' (first | (apply run_qg 1; (focus rfl); (focus exact wt); (focus rfl); (focus (exact qg1))) | (apply run_qg 4; (focus rfl); (focus exact wt); (focus rfl); (focus (first | exact qg4 | exact qs4))) | refine run_nil ?_ | refine pst_then ?_ | refine cod_ret ?_))
        exact pst_fin rfl (by exact resa) _ (⟨rfl, rfl⟩) (by exact hsa)
  · have hs2 : splitV l = ([], firstE l) := by unfold splitV; rw [if_pos hf]
    rw [hs] at hs2
    have e1 := congrArg Prod.fst hs2
    have e2 := congrArg Prod.snd hs2
    dsimp only at e1 e2
    subst e1
    rw [← e2] at hf
    clear hs hs2 e2
    (refine spec_enter Try.func4 Try.ntmps4 rfl rfl fun Fr => ?_; dsimp only [List.cons_append, List.nil_append, ini, Nat.reduceAdd])
    (repeat' (first | (apply run_qg 1; (focus rfl); (focus exact wt); (focus rfl); (focus (exact qg1))) | (apply run_qg 5; (focus rfl); (focus exact wt); (focus rfl); (focus (exact qg5))) | refine cod_seq ?_ | refine cod_region ?_ | refine run_nil ?_ | refine pst_then ?_ | (apply run_osg 10; (focus rfl); (focus exact wt); (focus rfl); (focus (exact opr_buildSlice rfl rfl rfl (by exact blda) rfl rfl (by decide) rfl)); (rintro _ _ ⟨q, rfl, rfl⟩))))
    (refine run_os wt rfl (opr_call_l rfl (S0 _ _) rfl (by exact lpa)) ?_; rintro _ _ ⟨_, ⟨q0, c0, rfl, rfl⟩, rfl⟩; dsimp only [List.cons_append, List.nil_append])
    (repeat' (first | (apply run_qg 1; (focus rfl); (focus exact wt); (focus rfl); (focus (exact qg1))) | (apply run_qg 4; (focus rfl); (focus exact wt); (focus rfl); (focus (first | exact qg4 | exact qs4))) | refine cod_seq ?_ | refine cod_region ?_ | refine run_nil ?_ | refine pst_then ?_ | (apply cod_cond_f; (focus rfl)) | refine cod_skip ?_ | (apply run_osg 10; (focus rfl); (focus exact wt); (focus rfl); (focus (exact opr_buildSlice rfl rfl rfl (by exact blda) rfl rfl (by decide) rfl)); (rintro _ _ ⟨q, rfl, rfl⟩)) | (apply run_osg 7; (focus rfl); (focus exact wt); (focus rfl); (focus (exact opr_call_ls (by rfl) (E1 ..) (by rfl) lpa)); (rintro _ _ ⟨rfl, rfl⟩))))
    (refine run_os wt rfl (opr_call_l rfl (S1) rfl (by exact lpa)) ?_; rintro _ _ ⟨_, ⟨q1, c1, rfl, rfl⟩, rfl⟩; dsimp only [List.cons_append, List.nil_append])
    (repeat' (first | (apply run_qg 1; (focus rfl); (focus exact wt); (focus rfl); (focus (exact qg1))) | (apply run_qg 4; (focus rfl); (focus exact wt); (focus rfl); (focus (first | exact qg4 | exact qs4))) | (apply run_qg 6; (focus rfl); (focus exact wt); (focus rfl); (focus (first | exact qs6 | exact qg6 | exact q_max rfl rfl rfl | exact q_sliceData rfl rfl (by omega) | exact q_sliceDataN rfl rfl | exact q_unsafeStringN rfl rfl rfl | exact q_cap_slice rfl rfl))) | refine cod_seq ?_ | refine cod_region ?_ | refine run_nil ?_ | refine pst_then ?_ | (apply cod_cond_t; (focus rfl)) | refine cod_ret ?_ | refine pst_then_ret ?_))
    exact pst_fin rfl (by exact resa) _ (⟨rfl, rfl⟩) (by exact hsa)
theorem walk (W : World) (a : Value) (l : List (Int × Int × Int × ByteArray)) (ha : SliceAt W 4 a (l.map fun p : Int × Int × Int × ByteArray => [Value.int .i64 p.1, Value.int .i64 p.2.1, Value.int .i64 p.2.2.1, Value.string p.2.2.2])) (ga : ∀ p ∈ l, (Lit.int .i64 p.1).wf = true ∧ (Lit.int .i64 p.2.1).wf = true ∧ (Lit.int .i64 p.2.2.1).wf = true ∧ p.2.2.2.size ≤ maxLen) (na : l.length * Try.prog.bytesOf 30 ≤ reachBytes) :
    Calls Try.prog 4 #[a] W fun e w' => e = .returned (.bool true) ∧ Below W.heap.size W w' := by
  have hn : l.length ≤ 10000000000000 := by
    have : Try.prog.bytesOf 30 = 40 := by kernel_rfl
    rw [this] at na
    unfold reachBytes at na
    omega
  obtain ⟨qa, ca, rfl, hc⟩ := slice_shapeC ha
  have e : (l.map fun p : Int × Int × Int × ByteArray => [Value.int .i64 p.1, Value.int .i64 p.2.1, Value.int .i64 p.2.2.1, Value.string p.2.2.2]) = (l.map toB).map fBl := by
    rw [List.map_map]
    rfl
  rw [e] at ha hc ⊢
  simp only [List.length_map] at ha hc ⊢
  have e2 : l.length = (l.map toB).length := by rw [List.length_map]
  rw [e2] at ha hc ⊢
  exact law_of_ct (sh_cons ha sh_nil) (law_any qa ca (l.map toB) (by rw [← e2]; exact hn) hc)
end Go.Proofs.Ytkkgmgffkjeklaa.lawBlobSplit
