/-
  Several texts in one: LeastV, WalkHuffLeast.
-/
import Derived.Test.YtppnaofebkpbkaaMgLeast
import Derived.Test.YtppnaofebkpbkaaOpen2
/-
  linenref.Least from two signs on: the walk.
-/
namespace Go.Proofs.Ytppnaofebkpbkaa.huff
open Go.RowKit kit sl Go.Proofs.Ytppnaofebkpbkaa.pm
set_option linter.unusedVariables false
def rowR (W : List Int) (n r e : Nat) : List Int := (List.range (n + 1)).map (bestI W n r e)
def rowP (n : Nat) (g : Nat → Int) (k : Nat) : List Int := (List.range (n + 1)).map fun j => if j < k then g j else 0
theorem rowP_len (n : Nat) (g : Nat → Int) (k : Nat) : (rowP n g k).length = n + 1 := by simp [rowP]
theorem rowP_at {n : Nat} {g : Nat → Int} {k j : Nat} (h : j < n + 1) : (rowP n g k)[j]? = some (if j < k then g j else 0) := by
  unfold rowP
  rw [List.getElem?_map, List.getElem?_range h]
  rfl
theorem rowP_zero (n : Nat) (g : Nat → Int) : rowP n g 0 = List.replicate (n + 1) 0 := by
  apply List.ext_getElem?
  intro j
  rw [List.getElem?_replicate]
  rcases Nat.lt_or_ge j (n + 1) with h | h
  · rw [rowP_at h, if_pos h, if_neg (by omega)]
  · rw [if_neg (by omega), List.getElem?_eq_none (by rw [rowP_len]; exact h)]
theorem rowP_set {n : Nat} {g : Nat → Int} {k : Nat} (h : k < n + 1) : (rowP n g k).set k (g k) = rowP n g (k + 1) := by
  apply List.ext_getElem?
  intro j
  rw [List.getElem?_set]
  rcases Nat.lt_or_ge j (n + 1) with hj | hj
  · rw [rowP_at hj, rowP_at hj, rowP_len]
    by_cases e : k = j
    · subst e
      rw [if_pos rfl, if_pos h, if_pos (by omega)]
    · rw [if_neg e]
      congr 1
      by_cases g : j < k
      · rw [if_pos g, if_pos (by omega)]
      · rw [if_neg g, if_neg (by omega)]
  · rw [if_neg (by omega), List.getElem?_eq_none (by rw [rowP_len]; exact hj), List.getElem?_eq_none (by rw [rowP_len]; exact hj)]
theorem best_end (W : List Int) (n r e : Nat) : bestI W n r e n = 0 := by
  cases r with
  | zero => rw [bestI, if_neg (by omega)]
  | succ r => rw [bestI, if_neg (by omega)]
theorem rowP_end (W : List Int) (n r e : Nat) : rowP n (bestI W n r e) n = rowR W n r e := by
  unfold rowP rowR
  apply List.map_congr_left
  intro j hj
  have := List.mem_range.1 hj
  by_cases h : j < n
  · rw [if_pos h]
  · have : j = n := by omega
    subst this
    rw [if_neg h, best_end]
theorem rowR_at {W : List Int} {n r e j : Nat} (h : j < n + 1) : (rowR W n r e)[j]? = some (bestI W n r e j) := by
  unfold rowR
  rw [List.getElem?_map, List.getElem?_range h]
  rfl
theorem rowR_len (W : List Int) (n r e : Nat) : (rowR W n r e).length = n + 1 := by simp [rowR]
theorem sum_nonneg : ∀ {l : List Int}, (∀ x ∈ l, 0 ≤ x) → 0 ≤ sumL l
  | [], _ => by decide
  | x :: l, h => by
    have h1 := h x List.mem_cons_self
    have h2 := sum_nonneg fun y hy => h y (List.mem_cons_of_mem _ hy)
    rw [sumL]
    omega
theorem cell_nonneg {best : Nat → Nat → Int} {w : List Int} {n e k : Nat} (hb : ∀ a b, 0 ≤ best a b) (hw : ∀ x ∈ w, 0 ≤ x) : ∀ T, 0 ≤ cellI best w n e k T
  | 0 => by rw [cellI]; decide
  | T + 1 => by
    have h1 := cell_nonneg (e := e) (k := k) (n := n) hb hw T
    have h2 := hb (min n (2 * (e - T))) (k + T)
    have h3 : 0 ≤ sumL (w.drop (k + T)) := sum_nonneg fun x hx => hw x (List.mem_of_mem_drop hx)
    rw [cellI]
    split
    · exact Int.le_min.2 ⟨h1, by omega⟩
    · exact h1
theorem best_bd {w : List Int} {n : Nat} (hw : ∀ x ∈ w, 0 ≤ x) : ∀ r e k, 0 ≤ bestI w n r e k ∧ bestI w n r e k ≤ neverI
  | 0, e, k => by
    rw [bestI]
    split <;> decide
  | r + 1, e, k => by
    rw [bestI]
    split
    · exact ⟨cell_nonneg (fun a b => (best_bd hw r a b).1) hw _, cell_le _ _ _ _ _ _⟩
    · decide
def sv (n : Nat) (q : Option Addr) : Value := .slice q (n + 1) (n + 1)
def tabV (n : Nat) (vs : List (Option Addr)) : List Value := vs.map (sv n) ++ List.replicate (n + 1 - vs.length) (.slice none 0 0)
def tabM (W : List Int) (n r : Nat) (vs : List (Option Addr)) : Lots := vs.mapIdx fun e q => (sv n q, (rowR W n r e).map fI)
def fV (v : Value) : List Value := [v]
theorem tabV_nil (n : Nat) : tabV n [] = List.replicate (n + 1) (.slice none 0 0) := rfl
theorem tabV_end {n : Nat} {vs : List (Option Addr)} (h : vs.length = n + 1) : tabV n vs = vs.map (sv n) := by
  unfold tabV
  rw [h, Nat.sub_self, List.replicate_zero, List.append_nil]
theorem tabV_next {n e : Nat} {vs : List (Option Addr)} {q : Option Addr} (h : vs.length = e) (he : e < n + 1) : (tabV n vs)[e]? = some (.slice none 0 0) ∧ (tabV n vs).set e (sv n q) = tabV n (vs ++ [q]) ∧ (tabV n (vs ++ [q]))[e]? = some (sv n q) := by
  have h1 : n + 1 - vs.length = (n + 1 - (vs ++ [q]).length) + 1 := by rw [List.length_append, List.length_singleton]; omega
  have h2 : (vs.map (sv n)).length = e := by rw [List.length_map, h]
  have e1 : tabV n vs = vs.map (sv n) ++ (.slice none 0 0) :: List.replicate (n + 1 - (vs ++ [q]).length) (.slice none 0 0) := by
    unfold tabV
    rw [h1, List.replicate_succ]
  have e2 : tabV n (vs ++ [q]) = vs.map (sv n) ++ (sv n q) :: List.replicate (n + 1 - (vs ++ [q]).length) (.slice none 0 0) := by
    unfold tabV
    rw [List.map_append, List.append_assoc]
    rfl
  refine ⟨?_, ?_, ?_⟩
  · rw [e1, ← h2, List.getElem?_append_right (Nat.le_refl _), Nat.sub_self]
    rfl
  · rw [e1, e2, ← h2, List.set_append_right _ _ (Nat.le_refl _), Nat.sub_self]
    rfl
  · rw [e2, ← h2, List.getElem?_append_right (Nat.le_refl _), Nat.sub_self]
    rfl
theorem tabM_next {W : List Int} {n r e : Nat} {vs : List (Option Addr)} {q : Option Addr} (h : vs.length = e) : tabM W n r vs ++ [(sv n q, (rowR W n r e).map fI)] = tabM W n r (vs ++ [q]) := by
  unfold tabM
  rw [List.mapIdx_append, ← h]
  simp
theorem tabM_mem {W : List Int} {n r x : Nat} {vs : List (Option Addr)} {q : Option Addr} (h : vs[x]? = some q) : (sv n q, (rowR W n r x).map fI) ∈ tabM W n r vs := by
  unfold tabM
  obtain ⟨h1, h2⟩ := List.getElem?_eq_some_iff.1 h
  refine List.mem_of_getElem? (i := x) ?_
  rw [List.getElem?_mapIdx, h]
  rfl
theorem best_zero {W : List Int} {n e k : Nat} (h : k < n) : neverI = bestI W n 0 e k := by rw [bestI, if_pos h]
theorem best_next {W : List Int} {n r e k : Nat} (h : k < n) : cellI (bestI W n r) W n e k (min e (n - k) + 1) = bestI W n (r + 1) e k := by
  rw [bestI, if_pos h]
theorem cell_next (best : Nat → Nat → Int) (w : List Int) (n e k t : Nat) : cellI best w n e k (t + 1) = if best (min n (2 * (e - t))) (k + t) < neverI then min (cellI best w n e k t) (best (min n (2 * (e - t))) (k + t) + sumL (w.drop (k + t))) else cellI best w n e k t := by
  rw [cellI]
theorem get_set {α : Type} {l : List α} {k : Nat} {x : α} (h : k < l.length) : (l.set k x)[k]? = some x := by
  rw [List.getElem?_set, if_pos rfl, if_pos h]
theorem set_twice {α : Type} (l : List α) (k : Nat) (x y : α) : (l.set k x).set k y = l.set k y := List.set_set ..
/-- the row that is made is put to the others -/
theorem row_done {W : List Int} {n r e : Nat} {vs : List (Option Addr)} {q : Option Addr} {ty : Nat} {H R S : List Ent} (p : Pick (own (sv n q) ty 1 (n + 1) (flat fI (rowR W n r e))) H R) (m : Pick (many 1 (tabM W n r vs)) R S) (h : vs.length = e) : HSub H (many 1 (tabM W n r (vs ++ [q])) :: S) := fun w hw => by
  rw [← tabM_next h]
  exact many_app (.there m) .here w (many_one .here w (heap_sl (f := fI) (ys := rowR W n r e) p (fun _ => rfl) (by rw [rowR_len]) w hw))
attribute [local irreducible] box own sl old bptr eptr Qt Opr Run Cod Pst Drn
set_option maxRecDepth 100000 in
set_option maxHeartbeats 8000000 in
theorem least_big (q : Option Addr) (c n : Nat) (W : List Int) (M : Nat) (hM : 1 ≤ M ∧ M ≤ 15) (hl : W.length = n) (hn : 2 ≤ n ∧ n ≤ 24) (hw : ∀ x ∈ W, 0 < x ∧ x ≤ 1048576) :
    Ct Try.prog 11 [.slice q n c, .int .i64 (M : Int)] [sl 1 (.slice q n c) (W.map fI)] fun v H' => v = .int .i64 (bestI W n (M + 1) 1 0) ∧ H' = [] := by
  have hn1 : (n : Int) + 1 = ((n + 1 : Nat) : Int) := by omega
  have hM1 : (M : Int) + 1 = ((M + 1 : Nat) : Int) := by omega
  have hwl : (W.map fI).length = n := by rw [List.length_map, hl]
  have hw0 : ∀ x ∈ W, 0 ≤ x := fun x hx => by have := hw x hx; omega
  have hBD := fun r e k => best_bd (n := n) hw0 r e k
  have hNV : neverI = 1152921504606846976 := rfl
  (refine spec_enter Try.func11 Try.ntmps11 rfl rfl fun Fr => ?_; dsimp only [List.cons_append, List.nil_append, ini, Nat.reduceAdd])
  (repeat' (first | (apply run_qg 1; (focus rfl); (focus exact wt); (focus rfl); (focus (exact qg1))) | (apply run_qg 4; (focus rfl); (focus exact wt); (focus rfl); (focus (first | exact qg4 | exact qs4))) | (apply run_qg 6; (focus rfl); (focus exact wt); (focus rfl); (focus (first | exact qs6 | exact qg6 | exact q_max rfl rfl rfl | exact q_sliceData rfl rfl (by omega) | exact q_sliceDataN rfl rfl | exact q_unsafeStringN rfl rfl rfl | exact q_cap_slice rfl rfl))) | refine cod_seq ?_ | refine cod_region ?_ | refine run_nil ?_ | refine pst_then ?_ | (apply cod_cond_f; (focus rfl)) | refine cod_skip ?_))
  rw [hn1]
  refine run_os wt rfl (opr_make (fI) (0) (c := n + 1) rfl rfl rfl (by first | rfl | omega) (by first | rfl | omega) rfl rfl (by omega) (by (unfold maxLen); omega)) ?_
  rintro _ _ ⟨qf, rfl, rfl⟩
  rw [← left_start hl]
  (repeat' (first | (apply run_qg 1; (focus rfl); (focus exact wt); (focus rfl); (focus (exact qg1))) | (apply run_qg 4; (focus rfl); (focus exact wt); (focus rfl); (focus (first | exact qg4 | exact qs4))) | refine cod_seq ?_ | refine cod_region ?_ | refine run_nil ?_ | refine pst_then ?_ | refine cod_block ?_))
  (refine cod_loop_rw (σ := Nat) (fun i => i ≤ n) (fun i => [(7, .int .i64 ((i : Int) - 1))]) (fun i => [own (.slice qf (n + 1) (n + 1)) 3 1 (n + 1) (flat fI (leftL W n i))]) _ (fun i => i) (n) (by exact Nat.le_refl _) (by exact fsa) (by (first | exact HSub.of_picks_rest (by exact pca))) (fun i hi => ?_); dsimp only [List.cons_append, List.nil_append])
  rcases Nat.eq_zero_or_pos i with h0 | h0
  · subst h0
    have hLT := fun j (hj : j < n + 1) => left_at (W := W) (n := n) (i := 0) hj
    have hLT : ∀ j, j < n + 1 → (leftL W n 0)[j]? = some (sumL (W.drop j)) := fun j hj => by
      rw [hLT j hj, if_neg (by omega)]
    have hLB : ∀ j, 0 ≤ sumL (W.drop j) ∧ sumL (W.drop j) ≤ 25165824 := fun j => by
      have h1 := sum_bd (l := W.drop j) fun y hy => hw y (List.mem_of_mem_drop hy)
      rw [List.length_drop, hl] at h1
      omega
    generalize leftL W n 0 = LF at *
    (repeat' (first | (apply run_qg 1; (focus rfl); (focus exact wt); (focus rfl); (focus (exact qg1))) | (apply run_qg 4; (focus rfl); (focus exact wt); (focus rfl); (focus (first | exact qg4 | exact qs4))) | refine cod_seq ?_ | refine cod_region ?_ | refine run_nil ?_ | refine pst_then ?_ | (apply cod_cond_f; (focus rfl)) | refine cod_exit ?_ | refine pst_block_here ?_ | refine pst_then_exit ?_))
    rw [hn1]
    refine run_os wt rfl (opr_make (fV) (Value.slice none 0 0) (c := n + 1) rfl rfl rfl (by first | rfl | omega) (by first | rfl | omega) rfl rfl (by omega) (by (unfold maxLen); omega)) ?_
    rintro _ _ ⟨qo, rfl, rfl⟩
    rw [← tabV_nil]
    (repeat' (first | (apply run_qg 1; (focus rfl); (focus exact wt); (focus rfl); (focus (exact qg1))) | (apply run_qg 6; (focus rfl); (focus exact wt); (focus rfl); (focus (first | exact qs6 | exact qg6 | exact q_max rfl rfl rfl | exact q_sliceData rfl rfl (by omega) | exact q_sliceDataN rfl rfl | exact q_unsafeStringN rfl rfl rfl | exact q_cap_slice rfl rfl))) | refine cod_seq ?_ | refine cod_region ?_ | refine run_nil ?_ | refine pst_then ?_ | refine cod_block ?_))
    refine cod_heap (show HSub _ (many 1 (tabM W n 0 []) :: _) from many_nil 1 _) ?_
    (refine cod_loop_rw (σ := Nat × List (Option Addr)) (fun s => s.1 ≤ n + 1 ∧ s.2.length = s.1) (fun s => [(52, .int .i64 (s.1 : Int))]) (fun s => [many 1 (tabM W n 0 s.2), own (.slice qo (n + 1) (n + 1)) 22 1 (n + 1) (flat fV (tabV n s.2))]) _ (fun s => n + 1 - s.1) ((0, [])) (by exact ⟨Nat.zero_le _, rfl⟩) (by exact fsa) (by (first | exact HSub.of_picks_rest (by exact pca))) (fun ⟨e, vs⟩ ⟨he, hv⟩ => ?_); dsimp only [List.cons_append, List.nil_append])
    dsimp only at he hv
    rcases Nat.lt_or_ge e (n + 1) with hen | hen
    · obtain ⟨ho1, _, _⟩ := tabV_next (q := none) hv hen
      (repeat' (first | (apply run_qg 1; (focus rfl); (focus exact wt); (focus rfl); (focus (exact qg1))) | (apply run_qg 4; (focus rfl); (focus exact wt); (focus rfl); (focus (first | exact qg4 | exact qs4))) | refine cod_seq ?_ | refine cod_region ?_ | refine run_nil ?_ | refine pst_then ?_ | (apply cod_cond_t; (focus rfl)) | refine cod_block ?_ | refine cod_skip ?_))
      rw [hn1]
      refine run_os wt rfl (opr_make (fI) (0) (c := n + 1) rfl rfl rfl (by first | rfl | omega) (by first | rfl | omega) rfl rfl (by omega) (by (unfold maxLen); omega)) ?_
      rintro _ _ ⟨qr, rfl, rfl⟩
      obtain ⟨_, ho2, ho3⟩ := tabV_next (q := qr) hv hen
      rw [← rowP_zero n (bestI W n 0 e)]
      (repeat' (first | (apply run_qg 3; (focus rfl); (focus exact wt); (focus rfl); (focus (first | exact qg3 | exact qs3)))))
      (refine run_on wt (opr_store_ownm (f := fV) (q' := sv n qr) rfl rfl rfl rfl (by exact pka) rfl (by omega) (by intro _; rfl) (by assumption) rfl rfl (by rfl)) ?_; rintro _ _ ⟨rfl, rfl⟩)
      rw [ho2]
      (repeat' (first | (apply run_qg 1; (focus rfl); (focus exact wt); (focus rfl); (focus (exact qg1))) | refine cod_seq ?_ | refine cod_region ?_ | refine run_nil ?_ | refine pst_then ?_ | refine cod_block ?_))
      (refine cod_loop_rw (σ := Nat) (fun k => k ≤ n) (fun k => [(62, .int .i64 (k : Int))]) (fun k => [own (sv n qr) 3 1 (n + 1) (flat fI (rowP n (bestI W n 0 e) k))]) _ (fun k => n - k) (0) (by exact Nat.zero_le _) (by exact fsa) (by (first | exact HSub.of_picks_rest (by exact pca))) (fun k hk => ?_); dsimp only [List.cons_append, List.nil_append])
      rcases Nat.lt_or_ge k n with hkn | hkn
      · have hset := rowP_set (n := n) (g := bestI W n 0 e) (k := k) (by omega)
        rw [← best_zero hkn] at hset
        have hat := rowP_at (n := n) (g := bestI W n 0 e) (k := k) (j := k) (by omega)
        rw [if_neg (by omega)] at hat
        (repeat' (first | (apply run_qg 1; (focus rfl); (focus exact wt); (focus rfl); (focus (exact qg1))) | (apply run_qg 2; (focus rfl); (focus exact wt); (focus rfl); (focus (first | exact qg2 | exact qs2))) | (apply run_qg 3; (focus rfl); (focus exact wt); (focus rfl); (focus (first | exact qg3 | exact qs3))) | (apply run_qg 4; (focus rfl); (focus exact wt); (focus rfl); (focus (first | exact qg4 | exact qs4))) | refine cod_seq ?_ | refine cod_region ?_ | refine run_nil ?_ | refine pst_then ?_ | (apply cod_cond_t; (focus rfl)) | refine cod_block ?_ | refine cod_skip ?_))
        (refine run_on wt (opr_store_ownm (f := fI) (q' := neverI) rfl rfl rfl rfl (by exact pka) rfl (by omega) (by intro _; rfl) (by assumption) rfl rfl (by rfl)) ?_; rintro _ _ ⟨rfl, rfl⟩)
        rw [hset]
        (repeat' (first | (apply run_qg 1; (focus rfl); (focus exact wt); (focus rfl); (focus (exact qg1))) | (apply run_qg 4; (focus rfl); (focus exact wt); (focus rfl); (focus (first | exact qg4 | exact qs4))) | refine cod_region ?_ | refine run_nil ?_ | refine pst_then ?_ | refine pst_block ?_))
        refine pst_again (k + 1) ?_ (FSub.of (by (try dsimp only); exact fsa)) (by (try dsimp only); exact hsa) ?_
        · exact hkn
        · show n - (k + 1) < n - k
          omega
      · have hkn' : k = n := by omega
        rw [hkn', rowP_end]
        (repeat' (first | (apply run_qg 1; (focus rfl); (focus exact wt); (focus rfl); (focus (exact qg1))) | (apply run_qg 4; (focus rfl); (focus exact wt); (focus rfl); (focus (first | exact qg4 | exact qs4))) | refine cod_seq ?_ | refine cod_region ?_ | refine run_nil ?_ | refine pst_then ?_ | (apply cod_cond_f; (focus rfl)) | refine cod_exit ?_ | refine pst_block_here ?_ | refine pst_then_exit ?_ | refine pst_block ?_))
        refine pst_weak (FSub.refl _) (row_done (vs := vs) (q := qr) pka pka hv) ?_
        refine pst_again ((e + 1, vs ++ [qr])) ?_ (FSub.of (by (try dsimp only); exact fsa)) (by (try dsimp only); exact hsa) ?_
        · exact ⟨hen, by rw [List.length_append, List.length_singleton, hv]⟩
        · show n + 1 - (e + 1) < n + 1 - e
          omega
    · have hvn : vs.length = n + 1 := by omega
      rw [tabV_end hvn]
      (repeat' (first | (apply run_qg 1; (focus rfl); (focus exact wt); (focus rfl); (focus (exact qg1))) | (apply run_qg 4; (focus rfl); (focus exact wt); (focus rfl); (focus (first | exact qg4 | exact qs4))) | refine cod_seq ?_ | refine cod_region ?_ | refine run_nil ?_ | refine pst_then ?_ | (apply cod_cond_f; (focus rfl)) | refine cod_block ?_ | refine cod_exit ?_ | refine pst_block_here ?_ | refine pst_then_exit ?_))
      refine cod_heap (heap_sl (f := fV) (ys := vs.map (sv n)) pka (fun _ => rfl) (by rw [List.length_map, hvn])) ?_
      rw [hM1]
      clear hv hen he
      (refine cod_loop_rw (σ := Nat × Option Addr × List (Option Addr)) (fun s => s.1 ≤ M + 1 ∧ s.2.2.length = n + 1) (fun s => [(75, .int .i64 (s.1 : Int)), (8, .slice s.2.1 (n + 1) (n + 1))]) (fun s => [sl 1 (.slice s.2.1 (n + 1) (n + 1)) ((s.2.2.map (sv n)).map fV), many 1 (tabM W n s.1 s.2.2)]) _ (fun s => M + 1 - s.1) ((0, qo, vs)) (by exact ⟨Nat.zero_le _, hvn⟩) (by exact fsa) (by (first | exact HSub.of_picks_rest (by exact pca))) (fun ⟨r, qb, us⟩ ⟨hr, hu⟩ => ?_); dsimp only [List.cons_append, List.nil_append])
      dsimp only at hr hu
      rcases Nat.lt_or_ge r (M + 1) with hrM | hrM
      · (repeat' (first | (apply run_qg 1; (focus rfl); (focus exact wt); (focus rfl); (focus (exact qg1))) | (apply run_qg 4; (focus rfl); (focus exact wt); (focus rfl); (focus (first | exact qg4 | exact qs4))) | refine cod_seq ?_ | refine cod_region ?_ | refine run_nil ?_ | refine pst_then ?_ | (apply cod_cond_t; (focus rfl)) | refine cod_block ?_ | refine cod_skip ?_))
        rw [hn1]
        refine run_os wt rfl (opr_make (fV) (Value.slice none 0 0) (c := n + 1) rfl rfl rfl (by first | rfl | omega) (by first | rfl | omega) rfl rfl (by omega) (by (unfold maxLen); omega)) ?_
        rintro _ _ ⟨qn, rfl, rfl⟩
        rw [← tabV_nil]
        (repeat' (first | (apply run_qg 1; (focus rfl); (focus exact wt); (focus rfl); (focus (exact qg1))) | (apply run_qg 6; (focus rfl); (focus exact wt); (focus rfl); (focus (first | exact qs6 | exact qg6 | exact q_max rfl rfl rfl | exact q_sliceData rfl rfl (by omega) | exact q_sliceDataN rfl rfl | exact q_unsafeStringN rfl rfl rfl | exact q_cap_slice rfl rfl))) | refine cod_seq ?_ | refine cod_region ?_ | refine run_nil ?_ | refine pst_then ?_ | refine cod_block ?_))
        refine cod_heap (show HSub _ (many 1 (tabM W n (r + 1) []) :: _) from many_nil 1 _) ?_
        (refine cod_loop_rw (σ := Nat × List (Option Addr)) (fun s => s.1 ≤ n + 1 ∧ s.2.length = s.1) (fun s => [(82, .int .i64 (s.1 : Int))]) (fun s => [many 1 (tabM W n (r + 1) s.2), own (.slice qn (n + 1) (n + 1)) 22 1 (n + 1) (flat fV (tabV n s.2))]) _ (fun s => n + 1 - s.1) ((0, [])) (by exact ⟨Nat.zero_le _, rfl⟩) (by exact fsa) (by (first | exact HSub.of_picks_rest (by exact pca))) (fun ⟨e, vs⟩ ⟨he, hv⟩ => ?_); dsimp only [List.cons_append, List.nil_append])
        dsimp only at he hv
        rcases Nat.lt_or_ge e (n + 1) with hen | hen
        · obtain ⟨ho1, _, _⟩ := tabV_next (q := none) hv hen
          (repeat' (first | (apply run_qg 1; (focus rfl); (focus exact wt); (focus rfl); (focus (exact qg1))) | (apply run_qg 4; (focus rfl); (focus exact wt); (focus rfl); (focus (first | exact qg4 | exact qs4))) | refine cod_seq ?_ | refine cod_region ?_ | refine run_nil ?_ | refine pst_then ?_ | (apply cod_cond_t; (focus rfl)) | refine cod_block ?_ | refine cod_skip ?_))
          rw [hn1]
          refine run_os wt rfl (opr_make (fI) (0) (c := n + 1) rfl rfl rfl (by first | rfl | omega) (by first | rfl | omega) rfl rfl (by omega) (by (unfold maxLen); omega)) ?_
          rintro _ _ ⟨qr, rfl, rfl⟩
          obtain ⟨_, ho2, ho3⟩ := tabV_next (q := qr) hv hen
          rw [← rowP_zero n (bestI W n (r + 1) e)]
          (repeat' (first | (apply run_qg 3; (focus rfl); (focus exact wt); (focus rfl); (focus (first | exact qg3 | exact qs3)))))
          (refine run_on wt (opr_store_ownm (f := fV) (q' := sv n qr) rfl rfl rfl rfl (by exact pka) rfl (by omega) (by intro _; rfl) (by assumption) rfl rfl (by rfl)) ?_; rintro _ _ ⟨rfl, rfl⟩)
          rw [ho2]
          (repeat' (first | (apply run_qg 1; (focus rfl); (focus exact wt); (focus rfl); (focus (exact qg1))) | refine cod_seq ?_ | refine cod_region ?_ | refine run_nil ?_ | refine pst_then ?_ | refine cod_block ?_))
          (refine cod_loop_rw (σ := Nat) (fun k => k ≤ n) (fun k => [(92, .int .i64 (k : Int))]) (fun k => [own (sv n qr) 3 1 (n + 1) (flat fI (rowP n (bestI W n (r + 1) e) k))]) _ (fun k => n - k) (0) (by exact Nat.zero_le _) (by exact fsa) (by (first | exact HSub.of_picks_rest (by exact pca))) (fun k hk => ?_); dsimp only [List.cons_append, List.nil_append])
          rcases Nat.lt_or_ge k n with hkn | hkn
          · have hset := rowP_set (n := n) (g := bestI W n (r + 1) e) (k := k) (by omega)
            rw [← best_next hkn] at hset
            have hat := rowP_at (n := n) (g := bestI W n (r + 1) e) (k := k) (j := k) (by omega)
            rw [if_neg (by omega)] at hat
            have hrl := rowP_len n (bestI W n (r + 1) e) k
            have hc0 : neverI = cellI (bestI W n r) W n e k 0 := by rw [cellI]
            have hCL := fun t => cell_le (bestI W n r) W n e k t
            have hCN := fun t => cell_nonneg (best := bestI W n r) (w := W) (n := n) (e := e) (k := k) (fun a b => (hBD r a b).1) hw0 t
            (repeat' (first | (apply run_qg 1; (focus rfl); (focus exact wt); (focus rfl); (focus (exact qg1))) | (apply run_qg 2; (focus rfl); (focus exact wt); (focus rfl); (focus (first | exact qg2 | exact qs2))) | (apply run_qg 3; (focus rfl); (focus exact wt); (focus rfl); (focus (first | exact qg3 | exact qs3))) | (apply run_qg 4; (focus rfl); (focus exact wt); (focus rfl); (focus (first | exact qg4 | exact qs4))) | refine cod_seq ?_ | refine cod_region ?_ | refine run_nil ?_ | refine pst_then ?_ | (apply cod_cond_t; (focus rfl)) | refine cod_block ?_ | refine cod_skip ?_))
            (refine run_on wt (opr_store_ownm (f := fI) (q' := neverI) rfl rfl rfl rfl (by exact pka) rfl (by omega) (by intro _; rfl) (by assumption) rfl rfl (by rfl)) ?_; rintro _ _ ⟨rfl, rfl⟩)
            rw [hc0]
            (repeat' (first | (apply run_qg 1; (focus rfl); (focus exact wt); (focus rfl); (focus (exact qg1))) | refine cod_seq ?_ | refine cod_region ?_ | refine run_nil ?_ | refine pst_then ?_ | refine cod_block ?_))
            (refine cod_loop_rw (σ := Nat) (fun t => t ≤ min e (n - k) + 1) (fun t => [(14, .int .i64 (t : Int))]) (fun t => [own (sv n qr) 3 1 (n + 1) (flat fI ((rowP n (bestI W n (r + 1) e) k).set k (cellI (bestI W n r) W n e k t)))]) _ (fun t => min e (n - k) + 1 - t) (0) (by exact Nat.zero_le _) (by exact fsa) (by (first | exact HSub.of_picks_rest (by exact pca))) (fun t ht => ?_); dsimp only [List.cons_append, List.nil_append])
            by_cases h1 : t ≤ e ∧ k + t ≤ n
            · obtain ⟨h1, h2⟩ := h1
              have hnx := cell_next (bestI W n r) W n e k t
              have hmin : min (n : Int) (2 * ((e : Int) - (t : Int))) = ((min n (2 * (e - t)) : Nat) : Int) := by omega
              obtain ⟨X, hX⟩ : ∃ X, min n (2 * (e - t)) = X := ⟨_, rfl⟩
              have hXn : X < n + 1 := by omega
              rw [hX] at hmin hnx
              obtain ⟨qx, hqx⟩ : ∃ qx, us[X]? = some qx := ⟨_, List.getElem?_eq_getElem (by omega)⟩
              have hmem := tabM_mem (W := W) (n := n) (r := r) hqx
              have hcell : (us.map (sv n))[X]? = some (sv n qx) := by rw [List.getElem?_map, hqx]; rfl
              have hrow := rowR_at (W := W) (n := n) (r := r) (e := X) (j := k + t) (by omega)
              have hrxl := rowR_len W n r X
              have hlf := hLT (k + t) (by omega)
              have hlb := hLB (k + t)
              have hB := hBD r X (k + t)
              have hkt : (k : Int) + (t : Int) = ((k + t : Nat) : Int) := by omega
              have hmeas : min e (n - k) + 1 - (t + 1) < min e (n - k) + 1 - t := by omega
              have hle : t + 1 ≤ min e (n - k) + 1 := by omega
              have hc1 := hCL t
              have hc2 := hCN t
              have hat2 := get_set (l := rowP n (bestI W n (r + 1) e) k) (k := k) (x := cellI (bestI W n r) W n e k t) (by omega)
              have hzl : ((rowP n (bestI W n (r + 1) e) k).set k (cellI (bestI W n r) W n e k t)).length = n + 1 := by rw [List.length_set, hrl]
              have hss := fun y => set_twice (rowP n (bestI W n (r + 1) e) k) k (cellI (bestI W n r) W n e k t) y
              clear hBD hLT hLB hCL hCN hset hc0
              by_cases hBn : bestI W n r X (k + t) < neverI
              · rw [if_pos hBn] at hnx
                generalize bestI W n r X (k + t) = B at *
                generalize sumL (W.drop (k + t)) = sl at *
                (repeat' (first | (apply run_qg 1; (focus rfl); (focus exact wt); (focus rfl); (focus (exact qg1))) | (apply run_qg 4; (focus rfl); (focus exact wt); (focus rfl); (focus (first | exact qg4 | exact qs4))) | (apply run_qg 6; (focus rfl); (focus exact wt); (focus rfl); (focus (first | exact qs6 | exact qg6 | exact q_max rfl rfl rfl | exact q_sliceData rfl rfl (by omega) | exact q_sliceDataN rfl rfl | exact q_unsafeStringN rfl rfl rfl | exact q_cap_slice rfl rfl))) | refine cod_seq ?_ | refine cod_region ?_ | refine run_nil ?_ | refine pst_then ?_ | (apply cod_cond_t; (focus rfl)) | refine cod_block ?_ | refine cod_skip ?_))
                rw [hmin]
                refine run_heap (many_out (l := tabM W n r us) pka hmem) ?_
                (repeat' (first | (apply run_qg 1; (focus rfl); (focus exact wt); (focus rfl); (focus (exact qg1))) | (apply run_qg 2; (focus rfl); (focus exact wt); (focus rfl); (focus (first | exact qg2 | exact qs2))) | (apply run_qg 3; (focus rfl); (focus exact wt); (focus rfl); (focus (first | exact qg3 | exact qs3))) | (apply run_qg 4; (focus rfl); (focus exact wt); (focus rfl); (focus (first | exact qg4 | exact qs4))) | refine cod_seq ?_ | refine cod_region ?_ | refine run_nil ?_ | refine pst_then ?_ | (apply cod_cond_t; (focus rfl))))
                (refine cod_drawn_ks (Hq := [_, _, _]) [1, 2, 7] [22] rfl (by kernel_rfl) (by simp only [List.length_cons, List.length_nil, Nat.reduceAdd]; rfl) ?_)
                (repeat' (first | (apply drnK_take 1; (focus rfl); (focus rfl); (focus exact wt); (focus (decide +kernel)); (focus exact hsq); (focus rfl); (focus (exact qg1))) | (apply drnK_take 2; (focus rfl); (focus rfl); (focus exact wt); (focus (decide +kernel)); (focus exact hsq); (focus rfl); (focus (first | exact qg2 | exact qs2))) | (apply drnK_take 3; (focus rfl); (focus rfl); (focus exact wt); (focus (decide +kernel)); (focus exact hsq); (focus rfl); (focus (first | exact qg3 | exact qs3))) | (apply drnK_take 4; (focus rfl); (focus rfl); (focus exact wt); (focus (decide +kernel)); (focus exact hsq); (focus rfl); (focus (first | exact qg4 | exact qs4))) | (apply drnK_take 6; (focus rfl); (focus rfl); (focus exact wt); (focus (decide +kernel)); (focus exact hsq); (focus rfl); (focus (first | exact qs6 | exact qg6 | exact q_max rfl rfl rfl | exact q_sliceData rfl rfl (by omega) | exact q_sliceDataN rfl rfl | exact q_unsafeStringN rfl rfl rfl | exact q_cap_slice rfl rfl))) | (apply drnK_done; (focus (decide +kernel))) | (apply drnK_skip; (focus rfl)) | (apply drnK_wrap; (focus rfl))))
                (refine drnK_at 22 ?_; (first | refine drnK_ones _ (by rfl) (by rfl) (by kernel_rfl) wt (by rfl) (by exact (opr_store_ownm (f := fI) (q' := min (cellI (bestI W n r) W n e k t) (B + sl)) rfl rfl rfl rfl (by exact pka) rfl (by omega) (by intro _; rfl) (by assumption) rfl rfl (by rfl))) ?_ | refine drnK_onen _ (by rfl) (by rfl) (by kernel_rfl) wt (by exact (opr_store_ownm (f := fI) (q' := min (cellI (bestI W n r) W n e k t) (B + sl)) rfl rfl rfl rfl (by exact pka) rfl (by omega) (by intro _; rfl) (by assumption) rfl rfl (by rfl))) ?_); rintro _ _ ⟨rfl, rfl⟩; refine ⟨(by first | exact fun h => absurd h (by decide) | exact fun _ => hsq), ?_⟩; (try dsimp only [List.cons_append, List.nil_append]))
                rw [hss, ← hnx]
                (repeat' (first | (apply run_qg 1; (focus rfl); (focus exact wt); (focus rfl); (focus (exact qg1))) | (apply run_qg 4; (focus rfl); (focus exact wt); (focus rfl); (focus (first | exact qg4 | exact qs4))) | refine cod_region ?_ | refine run_nil ?_ | refine pst_then ?_ | refine pst_block ?_ | (apply drnK_end; (focus (decide +kernel)))))
                refine pst_again (t + 1) ?_ (FSub.of (by (try dsimp only); exact fsa)) (by (try dsimp only); exact hsa) ?_
                · exact hle
                · exact hmeas
              · rw [if_neg hBn] at hnx
                generalize bestI W n r X (k + t) = B at *
                generalize sumL (W.drop (k + t)) = sl at *
                (repeat' (first | (apply run_qg 1; (focus rfl); (focus exact wt); (focus rfl); (focus (exact qg1))) | (apply run_qg 4; (focus rfl); (focus exact wt); (focus rfl); (focus (first | exact qg4 | exact qs4))) | (apply run_qg 6; (focus rfl); (focus exact wt); (focus rfl); (focus (first | exact qs6 | exact qg6 | exact q_max rfl rfl rfl | exact q_sliceData rfl rfl (by omega) | exact q_sliceDataN rfl rfl | exact q_unsafeStringN rfl rfl rfl | exact q_cap_slice rfl rfl))) | refine cod_seq ?_ | refine cod_region ?_ | refine run_nil ?_ | refine pst_then ?_ | (apply cod_cond_t; (focus rfl)) | refine cod_block ?_ | refine cod_skip ?_))
                rw [hmin]
                refine run_heap (many_out (l := tabM W n r us) pka hmem) ?_
                (repeat' (first | (apply run_qg 1; (focus rfl); (focus exact wt); (focus rfl); (focus (exact qg1))) | (apply run_qg 2; (focus rfl); (focus exact wt); (focus rfl); (focus (first | exact qg2 | exact qs2))) | (apply run_qg 3; (focus rfl); (focus exact wt); (focus rfl); (focus (first | exact qg3 | exact qs3))) | (apply run_qg 4; (focus rfl); (focus exact wt); (focus rfl); (focus (first | exact qg4 | exact qs4))) | refine cod_seq ?_ | refine cod_region ?_ | refine run_nil ?_ | refine pst_then ?_ | (apply cod_cond_f; (focus rfl)) | refine cod_skip ?_ | refine pst_block ?_))
                rw [← hnx]
                refine pst_again (t + 1) ?_ (FSub.of (by (try dsimp only); exact fsa)) (by (try dsimp only); exact hsa) ?_
                · exact hle
                · exact hmeas
            · have hte : t = min e (n - k) + 1 := by omega
              rw [hte, hset]
              clear hCL hCN hLT hLB hBD
              by_cases h3 : t ≤ e
              · (repeat' (first | (apply run_qg 1; (focus rfl); (focus exact wt); (focus rfl); (focus (exact qg1))) | (apply run_qg 4; (focus rfl); (focus exact wt); (focus rfl); (focus (first | exact qg4 | exact qs4))) | refine cod_seq ?_ | refine cod_region ?_ | refine run_nil ?_ | refine pst_then ?_ | (apply cod_cond_f; (focus rfl)) | refine cod_exit ?_ | refine pst_block_here ?_ | refine pst_then_exit ?_ | refine pst_block ?_))
                refine pst_again (k + 1) ?_ (FSub.of (by (try dsimp only); exact fsa)) (by (try dsimp only); exact hsa) ?_
                · exact hkn
                · show n - (k + 1) < n - k
                  omega
              · (repeat' (first | (apply run_qg 1; (focus rfl); (focus exact wt); (focus rfl); (focus (exact qg1))) | (apply run_qg 4; (focus rfl); (focus exact wt); (focus rfl); (focus (first | exact qg4 | exact qs4))) | refine cod_seq ?_ | refine cod_region ?_ | refine run_nil ?_ | refine pst_then ?_ | (apply cod_cond_f; (focus rfl)) | refine cod_exit ?_ | refine pst_block_here ?_ | refine pst_then_exit ?_ | refine pst_block ?_ | (apply run_offs; (focus rfl); (focus rfl); (focus rfl))))
                refine pst_again (k + 1) ?_ (FSub.of (by (try dsimp only); exact fsa)) (by (try dsimp only); exact hsa) ?_
                · exact hkn
                · show n - (k + 1) < n - k
                  omega
          · have hkn' : k = n := by omega
            rw [hkn', rowP_end]
            (repeat' (first | (apply run_qg 1; (focus rfl); (focus exact wt); (focus rfl); (focus (exact qg1))) | (apply run_qg 4; (focus rfl); (focus exact wt); (focus rfl); (focus (first | exact qg4 | exact qs4))) | refine cod_seq ?_ | refine cod_region ?_ | refine run_nil ?_ | refine pst_then ?_ | (apply cod_cond_f; (focus rfl)) | refine cod_exit ?_ | refine pst_block_here ?_ | refine pst_then_exit ?_ | refine pst_block ?_))
            refine pst_weak (FSub.refl _) (row_done (vs := vs) (q := qr) pka pka hv) ?_
            refine pst_again ((e + 1, vs ++ [qr])) ?_ (FSub.of (by (try dsimp only); exact fsa)) (by (try dsimp only); exact hsa) ?_
            · exact ⟨hen, by rw [List.length_append, List.length_singleton, hv]⟩
            · show n + 1 - (e + 1) < n + 1 - e
              omega
        · have hvn : vs.length = n + 1 := by omega
          rw [tabV_end hvn]
          (repeat' (first | (apply run_qg 1; (focus rfl); (focus exact wt); (focus rfl); (focus (exact qg1))) | (apply run_qg 4; (focus rfl); (focus exact wt); (focus rfl); (focus (first | exact qg4 | exact qs4))) | refine cod_seq ?_ | refine cod_region ?_ | refine run_nil ?_ | refine pst_then ?_ | (apply cod_cond_f; (focus rfl)) | refine cod_exit ?_ | refine pst_block_here ?_ | refine pst_then_exit ?_ | refine pst_block ?_))
          refine pst_weak (FSub.refl _) (heap_sl (f := fV) (ys := vs.map (sv n)) pka (fun _ => rfl) (by rw [List.length_map, hvn])) ?_
          refine pst_again ((r + 1, qn, vs)) ?_ (FSub.of (by (try dsimp only); exact fsa)) (by (try dsimp only); exact hsa) ?_
          · exact ⟨hrM, hvn⟩
          · show M + 1 - (r + 1) < M + 1 - r
            omega
      · have hrM' : r = M + 1 := by omega
        subst hrM'
        obtain ⟨qx, hqx⟩ : ∃ qx, us[1]? = some qx := ⟨_, List.getElem?_eq_getElem (by omega)⟩
        have hmem := tabM_mem (W := W) (n := n) (r := M + 1) hqx
        have hcell : (us.map (sv n))[1]? = some (sv n qx) := by rw [List.getElem?_map, hqx]; rfl
        have hrow := rowR_at (W := W) (n := n) (r := M + 1) (e := 1) (j := 0) (by omega)
        have hrxl := rowR_len W n (M + 1) 1
        refine cod_heap (many_out (l := tabM W n (M + 1) us) pka hmem) ?_
        (repeat' (first | (apply run_qg 1; (focus rfl); (focus exact wt); (focus rfl); (focus (exact qg1))) | (apply run_qg 2; (focus rfl); (focus exact wt); (focus rfl); (focus (first | exact qg2 | exact qs2))) | (apply run_qg 3; (focus rfl); (focus exact wt); (focus rfl); (focus (first | exact qg3 | exact qs3))) | (apply run_qg 4; (focus rfl); (focus exact wt); (focus rfl); (focus (first | exact qg4 | exact qs4))) | refine cod_seq ?_ | refine cod_region ?_ | refine run_nil ?_ | refine pst_then ?_ | (apply cod_cond_f; (focus rfl)) | refine cod_exit ?_ | refine cod_ret ?_ | refine pst_block_here ?_ | refine pst_then_exit ?_))
        exact pst_fin rfl (by exact resa) _ (⟨rfl, rfl⟩) (by exact hsa)
  · obtain ⟨j, rfl⟩ : ∃ j, i = j + 1 := ⟨i - 1, by omega⟩
    rw [show ((j + 1 : Nat) : Int) - 1 = (j : Int) by omega]
    obtain ⟨x, hx⟩ : ∃ x, W[j]? = some x := ⟨_, List.getElem?_eq_getElem (by omega)⟩
    have hxw := hw x (List.mem_of_getElem? hx)
    have hset := left_set hl (by omega) hx
    have hat := left_at (W := W) (n := n) (i := j + 1) (j := j + 1) (by omega)
    rw [if_neg (by omega)] at hat
    have hat0 := left_at (W := W) (n := n) (i := j + 1) (j := j) (by omega)
    rw [if_pos (by omega)] at hat0
    have hsb := sum_bd (l := W.drop (j + 1)) fun y hy => hw y (List.mem_of_mem_drop hy)
    rw [List.length_drop, hl] at hsb
    clear hBD
    generalize sumL (W.drop (j + 1)) = s at *
    generalize leftL W n (j + 1) = Z at *
    (repeat' (first | (apply run_qg 1; (focus rfl); (focus exact wt); (focus rfl); (focus (exact qg1))) | (apply run_qg 4; (focus rfl); (focus exact wt); (focus rfl); (focus (first | exact qg4 | exact qs4))) | refine cod_seq ?_ | refine cod_region ?_ | refine run_nil ?_ | refine pst_then ?_ | (apply cod_cond_t; (focus rfl)) | refine cod_block ?_ | refine cod_skip ?_))
    (refine cod_drawn_ks (Hq := [_, _]) [0, 1] [13] rfl (by kernel_rfl) (by simp only [List.length_cons, List.length_nil, Nat.reduceAdd]; rfl) ?_)
    (repeat' (first | (apply drnK_take 1; (focus rfl); (focus rfl); (focus exact wt); (focus (decide +kernel)); (focus exact hsq); (focus rfl); (focus (exact qg1))) | (apply drnK_take 2; (focus rfl); (focus rfl); (focus exact wt); (focus (decide +kernel)); (focus exact hsq); (focus rfl); (focus (first | exact qg2 | exact qs2))) | (apply drnK_take 3; (focus rfl); (focus rfl); (focus exact wt); (focus (decide +kernel)); (focus exact hsq); (focus rfl); (focus (first | exact qg3 | exact qs3))) | (apply drnK_take 4; (focus rfl); (focus rfl); (focus exact wt); (focus (decide +kernel)); (focus exact hsq); (focus rfl); (focus (first | exact qg4 | exact qs4))) | (apply drnK_done; (focus (decide +kernel))) | (apply drnK_skip; (focus rfl)) | (apply drnK_wrap; (focus rfl))))
    rw [show (j : Int) + 1 = ((j + 1 : Nat) : Int) by omega]
    refine drnK_at 5 ?_
    (repeat' (first | (apply drnK_take 2; (focus rfl); (focus rfl); (focus exact wt); (focus (decide +kernel)); (focus exact hsq); (focus rfl); (focus (first | exact qg2 | exact qs2))) | (apply drnK_take 3; (focus rfl); (focus rfl); (focus exact wt); (focus (decide +kernel)); (focus exact hsq); (focus rfl); (focus (first | exact qg3 | exact qs3))) | (apply drnK_take 4; (focus rfl); (focus rfl); (focus exact wt); (focus (decide +kernel)); (focus exact hsq); (focus rfl); (focus (first | exact qg4 | exact qs4))) | (apply drnK_done; (focus (decide +kernel))) | (apply drnK_skip; (focus rfl))))
    (refine drnK_at 13 ?_; (first | refine drnK_ones _ (by rfl) (by rfl) (by kernel_rfl) wt (by rfl) (by exact (opr_store_ownm (f := fI) (q' := s + x) rfl rfl rfl rfl (by exact pka) rfl (by omega) (by intro _; rfl) (by assumption) rfl rfl (by rfl))) ?_ | refine drnK_onen _ (by rfl) (by rfl) (by kernel_rfl) wt (by exact (opr_store_ownm (f := fI) (q' := s + x) rfl rfl rfl rfl (by exact pka) rfl (by omega) (by intro _; rfl) (by assumption) rfl rfl (by rfl))) ?_); rintro _ _ ⟨rfl, rfl⟩; refine ⟨(by first | exact fun h => absurd h (by decide) | exact fun _ => hsq), ?_⟩; (try dsimp only [List.cons_append, List.nil_append]))
    rw [hset]
    (repeat' (first | (apply run_qg 1; (focus rfl); (focus exact wt); (focus rfl); (focus (exact qg1))) | (apply run_qg 4; (focus rfl); (focus exact wt); (focus rfl); (focus (first | exact qg4 | exact qs4))) | refine cod_region ?_ | refine run_nil ?_ | refine pst_then ?_ | refine pst_block ?_ | (apply drnK_end; (focus (decide +kernel)))))
    refine pst_again (j) ?_ (FSub.of (by (try dsimp only); exact fsa)) (by (try dsimp only); exact hsa) ?_
    · omega
    · omega
theorem least_any (q : Option Addr) (c : Nat) (W : List Int) (M : Nat) (hM : 1 ≤ M ∧ M ≤ 15) (hn : W.length ≤ 24) (hw : ∀ x ∈ W, 0 < x ∧ x ≤ 1048576) :
    Ct Try.prog 11 [.slice q W.length c, .int .i64 (M : Int)] [sl 1 (.slice q W.length c) (W.map fI)] fun v H' => v = .int .i64 (leastF W M) ∧ H' = [] := by
  rcases Nat.lt_or_ge W.length 2 with h | h
  · exact least_small q c W M hM h
  · have e : leastF W M = bestI W W.length (M + 1) 1 0 := by
      unfold leastF
      rw [if_neg (by omega), if_neg (by omega)]
    rw [e]
    exact least_big q c W.length W M hM rfl ⟨h, hn⟩ hw
end Go.Proofs.Ytppnaofebkpbkaa.huff
/-
  HuffLeast: the walk. (SAFE)
-/
namespace Go.Proofs.Ytppnaofebkpbkaa.lawHuffLeast
open Go.RowKit kit sl Go.Proofs.Ytppnaofebkpbkaa.huff Go.Proofs.Ytppnaofebkpbkaa.pm
set_option linter.unusedVariables false
theorem cost_three : costC [1, 1, 2] 15 = 6 := by decide +kernel
attribute [local irreducible] box own sl old bptr eptr Qt Opr Run Cod Pst Drn
set_option maxRecDepth 100000 in
set_option maxHeartbeats 8000000 in
theorem law_any (q : Option Addr) (c : Nat) (F : List Int) (most : Int) (hl : F.length ≤ 1000000000000000) :
    Ct Try.prog 3 [.slice q F.length c, .int .i64 most] [sl 1 (.slice q F.length c) (F.map fI)] fun v H' => v = .bool true ∧ H' = [] := by
  have LIT := fun q c => cost_any q c [1, 1, 2] 15 (by decide)
  rw [cost_three] at LIT
  have LN := lens_any q c F most hl
  by_cases h : lensE F most = 0
  · have LN : Ct Try.prog 9 [.slice q F.length c, .int .i64 most] [sl 1 (.slice q F.length c) (F.map fI)] fun v H' => ∃ q' c', v = .tuple #[.slice q' F.length c', .int .i64 0] ∧ H' = [own (.slice q' F.length c') 3 1 F.length (flat fI (lensL F most))] := ct_imp LN fun v H' h2 => by
      rcases h2 with ⟨_, h3⟩ | ⟨h3, _⟩
      · exact h3
      · exact absurd h h3
    have CG := fun q' c' => cost_good q q' c c' F (lensL F most) F.length rfl (lens_len F most) (lensE_zero h).1 (lens_in h)
    have hll := (lens_len F most).symm
    have hc : dotK F (lensL F most) F.length = leastF (comes F F.length) most.toNat := by
      rw [← least_answer h]
      unfold costC
      rw [if_pos h]
    obtain ⟨hg, hm1, hm15, _⟩ := lensE_zero h
    have CM := comes_any q c F (by have := hg.1; omega) hg.2
    have hcl := comes_len F F.length
    have hw := comes_pos hg
    have hF320 := hg.1
    obtain ⟨m, rfl⟩ : ∃ m : Nat, most = (m : Int) := ⟨most.toNat, by omega⟩
    rw [hc] at CG
    rw [Int.toNat_natCast] at CG
    rcases Nat.lt_or_ge 24 F.length with h24 | h24
    · clear CM CG hw hcl hc
      generalize lensL F (m : Int) = O at *
      clear h hg
      (refine spec_enter Try.func3 Try.ntmps3 rfl rfl fun Fr => ?_; dsimp only [List.cons_append, List.nil_append, ini, Nat.reduceAdd])
      (repeat' (first | (apply run_qg 1; (focus rfl); (focus exact wt); (focus rfl); (focus (exact qg1))) | (apply run_qg 4; (focus rfl); (focus exact wt); (focus rfl); (focus (first | exact qg4 | exact qs4))) | refine cod_seq ?_ | refine cod_region ?_ | refine run_nil ?_ | refine pst_then ?_ | (apply cod_cond_f; (focus rfl)) | refine cod_skip ?_ | (apply run_osg 10; (focus rfl); (focus exact wt); (focus rfl); (focus (exact opr_buildSlice rfl rfl rfl (by exact blda) rfl rfl (by decide) rfl)); (rintro _ _ ⟨q, rfl, rfl⟩)) | (apply run_osg 7; (focus rfl); (focus exact wt); (focus rfl); (focus (exact opr_call_ls (by rfl) (LIT ..) (by rfl) lpa)); (rintro _ _ ⟨rfl, rfl⟩)) | fail))
      (refine run_os wt rfl (opr_call_l rfl (LN) rfl (by exact lpa)) ?_; rintro _ _ ⟨_, ⟨q1, c1, rfl, rfl⟩, rfl⟩; dsimp only [List.cons_append, List.nil_append])
      (repeat' (first | (apply run_qg 1; (focus rfl); (focus exact wt); (focus rfl); (focus (exact qg1))) | (apply run_qg 4; (focus rfl); (focus exact wt); (focus rfl); (focus (first | exact qg4 | exact qs4))) | (apply run_qg 6; (focus rfl); (focus exact wt); (focus rfl); (focus (first | exact qs6 | exact qg6 | exact q_max rfl rfl rfl | exact q_sliceData rfl rfl (by omega) | exact q_sliceDataN rfl rfl | exact q_unsafeStringN rfl rfl rfl | exact q_cap_slice rfl rfl))) | refine cod_seq ?_ | refine cod_region ?_ | refine run_nil ?_ | refine pst_then ?_ | (apply cod_cond_t; (focus rfl)) | refine cod_ret ?_ | refine pst_then_ret ?_ | (apply run_offs; (focus rfl); (focus rfl); (focus rfl)) | fail))
      exact pst_fin rfl (by exact resa) _ (⟨rfl, rfl⟩) (by exact hsa)
    · have LE := fun q' c' => least_any q' c' (comes F F.length) m (by omega) (by omega) hw
      clear hc
      generalize lensL F (m : Int) = O at *
      generalize comes F F.length = W at *
      generalize leastF W m = ans at *
      clear h hg hw
      (refine spec_enter Try.func3 Try.ntmps3 rfl rfl fun Fr => ?_; dsimp only [List.cons_append, List.nil_append, ini, Nat.reduceAdd])
      (repeat' (first | (apply run_qg 1; (focus rfl); (focus exact wt); (focus rfl); (focus (exact qg1))) | (apply run_qg 4; (focus rfl); (focus exact wt); (focus rfl); (focus (first | exact qg4 | exact qs4))) | refine cod_seq ?_ | refine cod_region ?_ | refine run_nil ?_ | refine pst_then ?_ | (apply cod_cond_f; (focus rfl)) | refine cod_skip ?_ | (apply run_osg 10; (focus rfl); (focus exact wt); (focus rfl); (focus (exact opr_buildSlice rfl rfl rfl (by exact blda) rfl rfl (by decide) rfl)); (rintro _ _ ⟨q, rfl, rfl⟩)) | (apply run_osg 7; (focus rfl); (focus exact wt); (focus rfl); (focus (exact opr_call_ls (by rfl) (LIT ..) (by rfl) lpa)); (rintro _ _ ⟨rfl, rfl⟩)) | fail))
      (refine run_os wt rfl (opr_call_l rfl (LN) rfl (by exact lpa)) ?_; rintro _ _ ⟨_, ⟨q1, c1, rfl, rfl⟩, rfl⟩; dsimp only [List.cons_append, List.nil_append])
      (repeat' (first | (apply run_qg 1; (focus rfl); (focus exact wt); (focus rfl); (focus (exact qg1))) | (apply run_qg 4; (focus rfl); (focus exact wt); (focus rfl); (focus (first | exact qg4 | exact qs4))) | (apply run_qg 6; (focus rfl); (focus exact wt); (focus rfl); (focus (first | exact qs6 | exact qg6 | exact q_max rfl rfl rfl | exact q_sliceData rfl rfl (by omega) | exact q_sliceDataN rfl rfl | exact q_unsafeStringN rfl rfl rfl | exact q_cap_slice rfl rfl))) | refine cod_seq ?_ | refine cod_region ?_ | refine run_nil ?_ | refine pst_then ?_ | (apply cod_cond_f; (focus rfl)) | refine cod_skip ?_ | (apply run_osg 7; (focus rfl); (focus exact wt); (focus rfl); (focus (exact opr_call_ls (by rfl) (CG ..) (by rfl) lpa)); (rintro _ _ ⟨rfl, rfl⟩)) | fail))
      (refine run_os wt rfl (opr_call_l rfl (CM) rfl (by exact lpa)) ?_; rintro _ _ ⟨_, ⟨q2, c2, rfl, rfl⟩, rfl⟩; dsimp only [List.cons_append, List.nil_append])
      refine run_heap (heap_sl (f := fI) (ys := W) pka (fun _ => rfl) rfl) ?_
      (repeat' (first | (apply run_qg 1; (focus rfl); (focus exact wt); (focus rfl); (focus (exact qg1))) | (apply run_qg 4; (focus rfl); (focus exact wt); (focus rfl); (focus (first | exact qg4 | exact qs4))) | refine run_nil ?_ | refine pst_then ?_ | refine cod_ret ?_ | (apply run_osg 7; (focus rfl); (focus exact wt); (focus rfl); (focus (exact opr_call_ls (by rfl) (LE ..) (by rfl) lpa)); (rintro _ _ ⟨rfl, rfl⟩)) | fail))
      exact pst_fin rfl (by exact resa) _ (⟨rfl, rfl⟩) (by exact hsa)
  · have LN : Ct Try.prog 9 [.slice q F.length c, .int .i64 most] [sl 1 (.slice q F.length c) (F.map fI)] fun v H' => v = .tuple #[.slice none 0 0, .int .i64 (lensE F most)] ∧ H' = [] := ct_imp LN fun v H' h2 => by
      rcases h2 with ⟨h3, _⟩ | ⟨_, h3⟩
      · exact absurd h3 h
      · exact h3
    generalize lensE F most = e at *
    (refine spec_enter Try.func3 Try.ntmps3 rfl rfl fun Fr => ?_; dsimp only [List.cons_append, List.nil_append, ini, Nat.reduceAdd])
    (repeat' (first | (apply run_qg 1; (focus rfl); (focus exact wt); (focus rfl); (focus (exact qg1))) | (apply run_qg 4; (focus rfl); (focus exact wt); (focus rfl); (focus (first | exact qg4 | exact qs4))) | (apply run_qg 6; (focus rfl); (focus exact wt); (focus rfl); (focus (first | exact qs6 | exact qg6 | exact q_max rfl rfl rfl | exact q_sliceData rfl rfl (by omega) | exact q_sliceDataN rfl rfl | exact q_unsafeStringN rfl rfl rfl | exact q_cap_slice rfl rfl))) | refine cod_seq ?_ | refine cod_region ?_ | refine run_nil ?_ | refine pst_then ?_ | (apply cod_cond_t; (focus rfl)) | (apply cod_cond_f; (focus rfl)) | refine cod_ret ?_ | refine cod_skip ?_ | refine pst_then_ret ?_ | (apply run_osg 10; (focus rfl); (focus exact wt); (focus rfl); (focus (exact opr_buildSlice rfl rfl rfl (by exact blda) rfl rfl (by decide) rfl)); (rintro _ _ ⟨q, rfl, rfl⟩)) | (apply run_offs; (focus rfl); (focus rfl); (focus rfl)) | (apply run_osg 7; (focus rfl); (focus exact wt); (focus rfl); (focus (exact opr_call_ls (by rfl) (LIT ..) (by rfl) lpa)); (rintro _ _ ⟨rfl, rfl⟩)) | (apply run_osg 7; (focus rfl); (focus exact wt); (focus rfl); (focus (exact opr_call_ls (by rfl) (LN ..) (by rfl) lpa)); (rintro _ _ ⟨rfl, rfl⟩)) | fail))
    exact pst_fin rfl (by exact resa) _ (⟨rfl, rfl⟩) (by exact hsa)
theorem walk (W : World) (a : Value) (F : List Int) (ha : SliceAt W 1 a (F.map fun i : Int => [Value.int .i64 i])) (ga : ∀ i ∈ F, (Lit.int .i64 i).wf = true) (na : F.length * Try.prog.bytesOf 3 ≤ reachBytes) (m : Int) (wm : (Lit.int .i64 m).wf = true) :
    Calls Try.prog 3 #[a, .int .i64 m] W fun e w' => e = .returned (.bool true) ∧ Below W.heap.size W w' := by
  have hr : reachBytes = 140737488351232 := rfl
  have h8 : Try.prog.bytesOf 3 = 8 := by kernel_rfl
  rw [hr, h8] at na
  obtain ⟨qa, ca, rfl⟩ := slice_shape ha
  simp only [List.length_map] at ha ⊢
  exact law_of_ct (sh_cons ha sh_nil) (law_any qa ca F m (by omega))
end Go.Proofs.Ytppnaofebkpbkaa.lawHuffLeast
