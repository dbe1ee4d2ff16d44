/-
  PickMore: the walk.
-/
import Derived.Test.YtkkgmgffkjeklaaPickOrder
import Derived.Test.YtkkgmgffkjeklaaRowN
import Derived.Test.YtkkgmgffkjeklaaOpen2
namespace Go.Proofs.Ytkkgmgffkjeklaa.lawPickMore
open Go.RowKit kit sl Go.Proofs.Ytkkgmgffkjeklaa.pick
set_option linter.unusedVariables false
/-! ### the plain law -/
theorem qu_mem : ∀ (live ages : List Int) (n : Nat) (o : One), o ∈ quF live ages n → ∃ i : Nat, o.1 = ((n + i : Nat) : Int) ∧ live[i]? = some o.2.1 ∧ ages[i]? = some o.2.2 ∧ 0 < o.2.1 := by
  intro live
  induction live with
  | nil => intro ages n o h; rw [quF_nil] at h; exact absurd h List.not_mem_nil
  | cons x live ih =>
    intro ages n o h
    cases ages with
    | nil => exact absurd h List.not_mem_nil
    | cons a ages =>
      rw [quF] at h
      rcases List.mem_append.1 h with h | h
      · split at h
        · rename_i hx
          rw [List.mem_singleton.1 h]
          exact ⟨0, rfl, rfl, rfl, hx⟩
        · exact absurd h List.not_mem_nil
      · obtain ⟨i, h1, h2, h3, h4⟩ := ih ages (n + 1) o h
        exact ⟨i + 1, by rw [h1]; omega, by simpa using h2, by simpa using h3, h4⟩
theorem qu_nodup : ∀ (live ages : List Int) (n : Nat), (quF live ages n).Pairwise (fun a b => a.1 ≠ b.1) := by
  intro live
  induction live with
  | nil => intro ages n; rw [quF_nil]; exact List.Pairwise.nil
  | cons x live ih =>
    intro ages n
    cases ages with
    | nil => exact List.Pairwise.nil
    | cons a ages =>
      rw [quF]
      refine List.pairwise_append.2 ⟨?_, ih ages (n + 1), fun u hu v hv => ?_⟩
      · split
        · exact List.pairwise_singleton _ _
        · exact List.Pairwise.nil
      · split at hu
        · rw [List.mem_singleton.1 hu]
          obtain ⟨i, h1, _⟩ := qu_mem live ages (n + 1) v hv
          dsimp only
          omega
        · exact absurd hu List.not_mem_nil
/-- how many are alive at all -/
def cntL (live : List Int) : Nat := (live.filter fun x => decide (0 < x)).length
theorem cnt_le (live : List Int) : cntL live ≤ live.length := List.length_filter_le _ _
theorem cnt_next {live : List Int} {i : Nat} {x : Int} (h : live[i]? = some x) : cntL (live.take (i + 1)) = cntL (live.take i) + (if 0 < x then 1 else 0) := by
  unfold cntL
  rw [List.take_add_one, h, List.filter_append, List.length_append]
  congr 1
  by_cases hx : 0 < x
  · rw [if_pos hx]; simp [hx]
  · rw [if_neg hx]; simp [hx]
theorem qu_len : ∀ (live ages : List Int) (n : Nat), live.length = ages.length → (quF live ages n).length = cntL live := by
  intro live
  induction live with
  | nil => intro ages n _; rw [quF_nil]; rfl
  | cons x live ih =>
    intro ages n h
    cases ages with
    | nil => simp at h
    | cons a ages =>
      rw [quF, List.length_append, ih ages (n + 1) (by simpa using h)]
      unfold cntL
      by_cases hx : 0 < x
      · rw [if_pos hx]; simp [hx]; omega
      · rw [if_neg hx]; simp [hx]
/-- what was seen: those of the list -/
def seenF (os : List One) : Nat → Nat := fun i => if os.any (fun o => o.1 == (i : Int)) then 1 else 0
theorem seen_next (os : List One) (o : One) {i : Nat} (h : o.1 = (i : Int)) : upd1 (seenF os) i 1 = seenF (os ++ [o]) := by
  funext j
  unfold upd1 seenF
  rw [List.any_append]
  by_cases hj : j = i
  · subst hj
    rw [if_pos rfl]
    simp [h]
  · rw [if_neg hj]
    have : ((o.1 == (j : Int)) = false) := by rw [h]; simp; omega
    rw [List.any_cons, List.any_nil, this, Bool.or_false, Bool.or_false]
theorem seen_no {os : List One} {o : One} {i : Nat} (h : o.1 = (i : Int)) (hn : ∀ a ∈ os, a.1 ≠ o.1) : seenF os i = 0 := by
  unfold seenF
  rw [if_neg]
  simp only [List.any_eq_true, not_exists, not_and]
  intro a ha e
  exact hn a ha (by rw [h]; simpa using e)
theorem ord_lit (os : List One) (hp : os.Perm (quF [900, 0, 10] [5, 9, 5] 0)) (hs : os.Pairwise (fun a b => better b a = false)) : os.map (·.1) = [2, 0] := by
  have e : quF [900, 0, 10] [5, 9, 5] 0 = [(0, 900, 5), (2, 10, 5)] := by decide
  rw [e] at hp
  have hl := hp.length_eq
  match os, hl with
  | [a, b], _ =>
    have ha : a ∈ [((0 : Int), (900 : Int), (5 : Int)), (2, 10, 5)] := hp.mem_iff.1 (by simp)
    have hb : b ∈ [((0 : Int), (900 : Int), (5 : Int)), (2, 10, 5)] := hp.mem_iff.1 (by simp)
    have h0 := (List.pairwise_cons.1 hs).1 b (by simp)
    simp only [List.mem_cons, List.not_mem_nil, or_false] at ha hb
    rcases ha with rfl | rfl <;> rcases hb with rfl | rfl
    · have := hp.mem_iff (a := ((2 : Int), (10 : Int), (5 : Int)))
      exact absurd this (by decide)
    · exact absurd h0 (by decide)
    · rfl
    · have := hp.mem_iff (a := ((0 : Int), (900 : Int), (5 : Int)))
      exact absurd this (by decide)
theorem seen_zero : (fun _ : Nat => 0) = seenF [] := rfl
theorem ct_mono {P : Program} {f : FuncId} {args : List Value} {H : List Ent} {R R' : Value → List Ent → Prop} (h : Ct P f args H R) (k : ∀ v H', R v H' → R' v H') : Ct P f args H R' := ⟨fun Fr w hw => (h.go Fr w hw).mono fun e w' ⟨v, H', h1, h2, h3⟩ => ⟨v, H', h1, k v H' h2, h3⟩⟩
theorem order_good {qa qb : Option Addr} {ca cb : Nat} {live ages : List Int} (h1 : live.length ≤ maxLen) (h2 : ages.length ≤ maxLen) (hg : ¬ BadP live ages) :
    Ct Try.prog 10 [.slice qa live.length ca, .slice qb ages.length cb] [sl 1 (.slice qa live.length ca) (live.map fI), sl 1 (.slice qb ages.length cb) (ages.map fI)]
      fun v H' => ∃ (os : List One) (q : Option Addr) (c : Nat), (os.Perm (quF live ages 0) ∧ os.Pairwise (fun a b => better b a = false) ∧ ∀ a ∈ os, okO a) ∧ v = .tuple #[.slice q os.length c, .int .i64 0] ∧ H' = [own (.slice q os.length c) 3 1 os.length (flat fI (os.map (·.1)))] :=
  ct_mono (order_any qa qb ca cb live ages h1 h2) fun v H' h => by
    rcases h with ⟨os, q, c, _, h3, h4, h5, h6, h7⟩ | ⟨h3, _⟩
    · exact ⟨os, q, c, ⟨h3, h4, h5⟩, h6, h7⟩
    · exact absurd h3 hg
theorem order_bad {qa qb : Option Addr} {ca cb : Nat} {live ages : List Int} (h1 : live.length ≤ maxLen) (h2 : ages.length ≤ maxLen) (hg : BadP live ages) :
    Ct Try.prog 10 [.slice qa live.length ca, .slice qb ages.length cb] [sl 1 (.slice qa live.length ca) (live.map fI), sl 1 (.slice qb ages.length cb) (ages.map fI)]
      fun v H' => ∃ e : Int, e ≠ 0 ∧ v = .tuple #[.slice none 0 0, .int .i64 e] ∧ H' = [] :=
  ct_mono (order_any qa qb ca cb live ages h1 h2) fun v H' h => by
    rcases h with ⟨os, q, c, h0, _⟩ | ⟨_, h3⟩
    · exact absurd hg h0
    · exact h3
theorem lit_good : ¬ BadP [900, 0, 10] [5, 9, 5] := fun h => by
  rcases h with h | h | ⟨i, x, a, h1, h2, h3⟩
  · exact h rfl
  · exact absurd h (by decide)
  · match i, h1, h2 with
    | 0, h1, h2 => cases h1; cases h2; omega
    | 1, h1, h2 => cases h1; cases h2; omega
    | 2, h1, h2 => cases h1; cases h2; omega
    | n + 3, h1, _ => cases h1
theorem order_lit {qa qb : Option Addr} {ca cb : Nat} :
    Ct Try.prog 10 [.slice qa 3 ca, .slice qb 3 cb] [sl 1 (.slice qa 3 ca) (([900, 0, 10] : List Int).map fI), sl 1 (.slice qb 3 cb) (([5, 9, 5] : List Int).map fI)]
      fun v H' => ∃ (q : Option Addr) (c : Nat), v = .tuple #[.slice q 2 c, .int .i64 0] ∧ H' = [own (.slice q 2 c) 3 1 2 (flat fI [2, 0])] :=
  ct_mono (order_good (live := [900, 0, 10]) (ages := [5, 9, 5]) (by decide) (by decide) lit_good) fun v H' h => by
    obtain ⟨os, q, c, ⟨h3, h4, _⟩, h5, h6⟩ := h
    have e := ord_lit os h3 h4
    have e2 : os.length = 2 := by rw [← List.length_map (f := fun x : One => x.1), e]; rfl
    rw [e2] at h5 h6
    rw [e] at h6
    exact ⟨q, c, h5, h6⟩
attribute [local irreducible] box own sl old bptr eptr Qt Opr Run Cod Pst Drn
set_option maxRecDepth 100000 in
set_option maxHeartbeats 8000000 in
theorem equal_I (qa qb : Option Addr) (ca cb : Nat) (xs ys : List (Int)) (hn : xs.length ≤ maxLen) (hm : ys.length ≤ maxLen) :
    Ct Try.prog 11 [.slice qa xs.length ca, .slice qb ys.length cb] [sl 1 (.slice qa xs.length ca) (xs.map fI), sl 1 (.slice qb ys.length cb) (ys.map fI)] fun v H' => v = .bool (decide (xs = ys)) ∧ H' = [] := by
  unfold maxLen at hn hm
  by_cases hl : xs.length = ys.length
  · (refine spec_enter Try.func11 Try.ntmps11 rfl rfl fun Fr => ?_; dsimp only [List.cons_append, List.nil_append, ini, Nat.reduceAdd])
    (repeat' (first | (apply run_qg 1; (focus rfl); (focus exact wt); (focus rfl); (focus (exact qg1))) | (apply run_qg 4; (focus rfl); (focus exact wt); (focus rfl); (focus (first | exact qg4 | exact qs4))) | (apply run_qg 6; (focus rfl); (focus exact wt); (focus rfl); (focus (first | exact qs6 | exact qg6 | exact q_max rfl rfl rfl | exact q_sliceData rfl rfl (by omega) | exact q_sliceDataN rfl rfl | exact q_unsafeStringN rfl rfl rfl | exact q_cap_slice rfl rfl))) | refine cod_seq ?_ | refine cod_region ?_ | refine run_nil ?_ | refine pst_then ?_ | (apply cod_cond_f; (focus rfl)) | refine cod_block ?_ | refine cod_skip ?_))
    (refine cod_loop_ro (σ := Nat) (fun k => k ≤ xs.length ∧ xs.take k = ys.take k) (fun k => [(13, .int .i64 (k : Int))]) (fun k => xs.length - k) (0) (by simp) (by exact fsa) (fun k ⟨hk, ht⟩ => ?_); dsimp only [List.cons_append, List.nil_append])
    rcases get_or xs k with ⟨x, hx, hlt⟩ | hge
    · obtain ⟨y, hy⟩ : ∃ y, ys[k]? = some y := ⟨_, List.getElem?_eq_getElem (by omega)⟩
      by_cases hxy : x = y
      · (repeat' (first | (apply run_qg 1; (focus rfl); (focus exact wt); (focus rfl); (focus (exact qg1))) | (apply run_qg 4; (focus rfl); (focus exact wt); (focus rfl); (focus (first | exact qg4 | exact qs4))) | refine cod_seq ?_ | refine cod_region ?_ | refine run_nil ?_ | refine pst_then ?_ | (apply cod_cond_t; (focus rfl)) | (apply cod_cond_f; (focus rfl)) | refine cod_block ?_ | refine cod_skip ?_ | refine pst_block ?_ | (apply cod_drawn_k; (focus kernel_rfl); (focus (simp only [List.length_cons, List.length_nil, Nat.reduceAdd]; rfl))) | (apply drnK_take 1; (focus rfl); (focus rfl); (focus exact wt); (focus (decide +kernel)); (focus exact hsq); (focus rfl); (focus (exact qg1))) | (apply drnK_take 2; (focus rfl); (focus rfl); (focus exact wt); (focus (decide +kernel)); (focus exact hsq); (focus rfl); (focus (first | exact qg2 | exact qs2))) | (apply drnK_take 3; (focus rfl); (focus rfl); (focus exact wt); (focus (decide +kernel)); (focus exact hsq); (focus rfl); (focus (first | exact qg3 | exact qs3))) | (apply drnK_take 4; (focus rfl); (focus rfl); (focus exact wt); (focus (decide +kernel)); (focus exact hsq); (focus rfl); (focus (first | exact qg4 | exact qs4))) | (apply drnK_end; (focus (decide +kernel)))))
        refine pst_again (k + 1) ?_ (FSub.of (by (try dsimp only); exact fsa)) (by (try dsimp only); exact hsa) ?_
        · exact ⟨by omega, by rw [take_one hx, take_one hy, ht, hxy]⟩
        · show xs.length - (k + 1) < xs.length - k
          omega
      · (repeat' (first | (apply run_qg 1; (focus rfl); (focus exact wt); (focus rfl); (focus (exact qg1))) | (apply run_qg 4; (focus rfl); (focus exact wt); (focus rfl); (focus (first | exact qg4 | exact qs4))) | refine cod_seq ?_ | refine cod_region ?_ | refine run_nil ?_ | refine pst_then ?_ | (apply cod_cond_t; (focus rfl)) | refine cod_block ?_ | refine cod_ret ?_ | refine cod_skip ?_ | refine pst_block_ret ?_ | refine pst_then_ret ?_ | (apply cod_drawn_k; (focus kernel_rfl); (focus (simp only [List.length_cons, List.length_nil, Nat.reduceAdd]; rfl))) | (apply drnK_take 1; (focus rfl); (focus rfl); (focus exact wt); (focus (decide +kernel)); (focus exact hsq); (focus rfl); (focus (exact qg1))) | (apply drnK_take 2; (focus rfl); (focus rfl); (focus exact wt); (focus (decide +kernel)); (focus exact hsq); (focus rfl); (focus (first | exact qg2 | exact qs2))) | (apply drnK_take 3; (focus rfl); (focus rfl); (focus exact wt); (focus (decide +kernel)); (focus exact hsq); (focus rfl); (focus (first | exact qg3 | exact qs3))) | (apply drnK_take 4; (focus rfl); (focus rfl); (focus exact wt); (focus (decide +kernel)); (focus exact hsq); (focus rfl); (focus (first | exact qg4 | exact qs4))) | (apply drnK_end; (focus (decide +kernel)))))
        have hd : decide (xs = ys) = false := by
          rw [decide_eq_false_iff_not]
          intro e
          rw [e, hy] at hx
          exact hxy (Option.some.inj hx).symm
        exact pst_fin rfl (by exact resa) _ (⟨by rw [hd], rfl⟩) (by exact hsa)
    · (repeat' (first | (apply run_qg 1; (focus rfl); (focus exact wt); (focus rfl); (focus (exact qg1))) | (apply run_qg 4; (focus rfl); (focus exact wt); (focus rfl); (focus (first | exact qg4 | exact qs4))) | refine cod_seq ?_ | refine cod_region ?_ | refine run_nil ?_ | refine pst_then ?_ | (apply cod_cond_f; (focus rfl)) | refine cod_exit ?_ | refine cod_ret ?_ | refine pst_block_here ?_ | refine pst_then_exit ?_))
      have hd : decide (xs = ys) = true := by
        rw [decide_eq_true_iff]
        rwa [List.take_of_length_le hge, List.take_of_length_le (by omega)] at ht
      exact pst_fin rfl (by exact resa) _ (⟨by rw [hd], rfl⟩) (by exact hsa)
  · have hd : decide (xs = ys) = false := by
      rw [decide_eq_false_iff_not]
      intro e
      rw [e] at hl
      exact hl rfl
    (refine spec_enter Try.func11 Try.ntmps11 rfl rfl fun Fr => ?_; dsimp only [List.cons_append, List.nil_append, ini, Nat.reduceAdd])
    (repeat' (first | (apply run_qg 1; (focus rfl); (focus exact wt); (focus rfl); (focus (exact qg1))) | (apply run_qg 4; (focus rfl); (focus exact wt); (focus rfl); (focus (first | exact qg4 | exact qs4))) | (apply run_qg 6; (focus rfl); (focus exact wt); (focus rfl); (focus (first | exact qs6 | exact qg6 | exact q_max rfl rfl rfl | exact q_sliceData rfl rfl (by omega) | exact q_sliceDataN rfl rfl | exact q_unsafeStringN rfl rfl rfl | exact q_cap_slice rfl rfl))) | refine cod_seq ?_ | refine cod_region ?_ | refine run_nil ?_ | refine pst_then ?_ | (apply cod_cond_t; (focus rfl)) | refine cod_ret ?_ | refine pst_then_ret ?_))
    exact pst_fin rfl (by exact resa) _ (⟨by rw [hd], rfl⟩) (by exact hsa)

theorem equal_lit {qa qb : Option Addr} {ca cb : Nat} :
    Ct Try.prog 11 [.slice qa 2 ca, .slice qb 2 cb] [sl 1 (.slice qa 2 ca) (([2, 0] : List Int).map fI), sl 1 (.slice qb 2 cb) (([2, 0] : List Int).map fI)] fun v H' => v = .bool true ∧ H' = [] :=
  ct_true (equal_I qa qb ca cb [2, 0] [2, 0] (by decide) (by decide)) rfl
set_option maxRecDepth 100000 in
set_option maxHeartbeats 8000000 in
theorem law_any (qa qb : Option Addr) (ca cb : Nat) (live ages : List Int) (h1 : live.length ≤ maxLen) (h2 : ages.length ≤ maxLen) :
    Ct Try.prog 3 [.slice qa live.length ca, .slice qb ages.length cb] [sl 1 (.slice qa live.length ca) (live.map fI), sl 1 (.slice qb ages.length cb) (ages.map fI)] fun v H' => v = .bool true ∧ H' = [] := by
  by_cases hbad : BadP live ages
  · have O1 := order_bad (qa := qa) (qb := qb) (ca := ca) (cb := cb) h1 h2 hbad
    have OL := fun q1 q2 c1 c2 => order_lit (qa := q1) (qb := q2) (ca := c1) (cb := c2)
    have EL := fun q1 q2 c1 c2 => equal_lit (qa := q1) (qb := q2) (ca := c1) (cb := c2)
    (refine spec_enter Try.func3 Try.ntmps3 rfl rfl fun Fr => ?_; dsimp only [List.cons_append, List.nil_append, ini, Nat.reduceAdd])
    (repeat' (first | (apply run_qg 1; (focus rfl); (focus exact wt); (focus rfl); (focus (exact qg1))) | refine cod_seq ?_ | refine cod_region ?_ | refine run_nil ?_ | refine pst_then ?_ | (apply run_osg 10; (focus rfl); (focus exact wt); (focus rfl); (focus (exact opr_buildSlice rfl rfl rfl (by exact blda) rfl rfl (by decide) rfl)); (rintro _ _ ⟨q, rfl, rfl⟩))))
    (refine run_os wt rfl (opr_call_l rfl (OL _ _ _ _) rfl (by exact lpa)) ?_; rintro _ _ ⟨_, ⟨q0, c0, rfl, rfl⟩, rfl⟩; dsimp only [List.cons_append, List.nil_append])
    (repeat' (first | (apply run_qg 1; (focus rfl); (focus exact wt); (focus rfl); (focus (exact qg1))) | (apply run_qg 4; (focus rfl); (focus exact wt); (focus rfl); (focus (first | exact qg4 | exact qs4))) | refine cod_seq ?_ | refine cod_region ?_ | refine run_nil ?_ | refine pst_then ?_ | (apply cod_cond_f; (focus rfl)) | refine cod_skip ?_ | (apply run_osg 10; (focus rfl); (focus exact wt); (focus rfl); (focus (exact opr_buildSlice rfl rfl rfl (by exact blda) rfl rfl (by decide) rfl)); (rintro _ _ ⟨q, rfl, rfl⟩)) | (apply run_osg 7; (focus rfl); (focus exact wt); (focus rfl); (focus (exact opr_call_ls (by rfl) (EL ..) (by rfl) lpa)); (rintro _ _ ⟨rfl, rfl⟩))))
    (refine run_os wt rfl (opr_call_l rfl (O1) rfl (by exact lpa)) ?_; rintro _ _ ⟨_, ⟨e, he, rfl, rfl⟩, rfl⟩; dsimp only [List.cons_append, List.nil_append])
    (repeat' (first | (apply run_qg 1; (focus rfl); (focus exact wt); (focus rfl); (focus (exact qg1))) | (apply run_qg 4; (focus rfl); (focus exact wt); (focus rfl); (focus (first | exact qg4 | exact qs4))) | (apply run_qg 6; (focus rfl); (focus exact wt); (focus rfl); (focus (first | exact qs6 | exact qg6 | exact q_max rfl rfl rfl | exact q_sliceData rfl rfl (by omega) | exact q_sliceDataN rfl rfl | exact q_unsafeStringN rfl rfl rfl | exact q_cap_slice rfl rfl))) | refine cod_seq ?_ | refine cod_region ?_ | refine run_nil ?_ | refine pst_then ?_ | (apply cod_cond_t; (focus rfl)) | refine cod_ret ?_ | refine pst_then_ret ?_))
    exact pst_fin rfl (by exact resa) _ (⟨rfl, rfl⟩) (by exact hsa)
  · have O1 := order_good (qa := qa) (qb := qb) (ca := ca) (cb := cb) h1 h2 hbad
    have OL := fun q1 q2 c1 c2 => order_lit (qa := q1) (qb := q2) (ca := c1) (cb := c2)
    have EL := fun q1 q2 c1 c2 => equal_lit (qa := q1) (qb := q2) (ca := c1) (cb := c2)
    have hlen : live.length = ages.length := Decidable.not_not.1 fun h => hbad (.inl h)
    have h128 : live.length ≤ 128 := Nat.le_of_not_lt fun h => hbad (.inr (.inl h))
    (refine spec_enter Try.func3 Try.ntmps3 rfl rfl fun Fr => ?_; dsimp only [List.cons_append, List.nil_append, ini, Nat.reduceAdd])
    (repeat' (first | (apply run_qg 1; (focus rfl); (focus exact wt); (focus rfl); (focus (exact qg1))) | refine cod_seq ?_ | refine cod_region ?_ | refine run_nil ?_ | refine pst_then ?_ | (apply run_osg 10; (focus rfl); (focus exact wt); (focus rfl); (focus (exact opr_buildSlice rfl rfl rfl (by exact blda) rfl rfl (by decide) rfl)); (rintro _ _ ⟨q, rfl, rfl⟩))))
    (refine run_os wt rfl (opr_call_l rfl (OL _ _ _ _) rfl (by exact lpa)) ?_; rintro _ _ ⟨_, ⟨q0, c0, rfl, rfl⟩, rfl⟩; dsimp only [List.cons_append, List.nil_append])
    (repeat' (first | (apply run_qg 1; (focus rfl); (focus exact wt); (focus rfl); (focus (exact qg1))) | (apply run_qg 4; (focus rfl); (focus exact wt); (focus rfl); (focus (first | exact qg4 | exact qs4))) | refine cod_seq ?_ | refine cod_region ?_ | refine run_nil ?_ | refine pst_then ?_ | (apply cod_cond_f; (focus rfl)) | refine cod_skip ?_ | (apply run_osg 10; (focus rfl); (focus exact wt); (focus rfl); (focus (exact opr_buildSlice rfl rfl rfl (by exact blda) rfl rfl (by decide) rfl)); (rintro _ _ ⟨q, rfl, rfl⟩)) | (apply run_osg 7; (focus rfl); (focus exact wt); (focus rfl); (focus (exact opr_call_ls (by rfl) (EL ..) (by rfl) lpa)); (rintro _ _ ⟨rfl, rfl⟩))))
    (refine run_os wt rfl (opr_call_l rfl (O1) rfl (by exact lpa)) ?_; rintro _ _ ⟨_, ⟨os, q, c, ⟨hperm, hsort, hok⟩, rfl, rfl⟩, rfl⟩; dsimp only [List.cons_append, List.nil_append])
    have hol : os.length = cntL live := by rw [hperm.length_eq, qu_len live ages 0 hlen]
    have hml : (os.map (·.1)).length = os.length := List.length_map _
    have hcl := cnt_le live
    have hmem : ∀ o ∈ os, ∃ i : Nat, o.1 = (i : Int) ∧ live[i]? = some o.2.1 ∧ ages[i]? = some o.2.2 ∧ 0 < o.2.1 := fun o ho => by
      obtain ⟨i, g1, g2, g3, g4⟩ := qu_mem live ages 0 o (hperm.mem_iff.1 ho)
      exact ⟨i, by rw [g1, Nat.zero_add], g2, g3, g4⟩
    have hnod : os.Pairwise (fun a b => a.1 ≠ b.1) := (hperm.pairwise_iff fun h e => h e.symm).2 (qu_nodup live ages 0)
    clear hperm
    (repeat' (first | (apply run_qg 1; (focus rfl); (focus exact wt); (focus rfl); (focus (exact qg1))) | (apply run_qg 4; (focus rfl); (focus exact wt); (focus rfl); (focus (first | exact qg4 | exact qs4))) | (apply run_qg 6; (focus rfl); (focus exact wt); (focus rfl); (focus (first | exact qs6 | exact qg6 | exact q_max rfl rfl rfl | exact q_sliceData rfl rfl (by omega) | exact q_sliceDataN rfl rfl | exact q_unsafeStringN rfl rfl rfl | exact q_cap_slice rfl rfl))) | refine cod_seq ?_ | refine cod_region ?_ | refine run_nil ?_ | refine pst_then ?_ | (apply cod_cond_f; (focus rfl)) | refine cod_block ?_ | refine cod_skip ?_))
    (refine cod_loop_ro (σ := Nat) (fun j => j ≤ live.length) (fun j => [(44, .int .i64 (j : Int)), (9, .int .i64 ((cntL (live.take j) : Nat) : Int))]) (fun j => live.length - j) (0) (by exact Nat.zero_le _) (by exact fsa) (fun j hj => ?_); dsimp only [List.cons_append, List.nil_append])
    rcases Nat.lt_or_ge j live.length with hlt | hge
    · obtain ⟨x, hx⟩ : ∃ x, live[j]? = some x := ⟨_, List.getElem?_eq_getElem hlt⟩
      have hb := cnt_le (live.take j)
      rw [List.length_take] at hb
      have hcn := cnt_next hx
      by_cases hx0 : 0 < x
      · rw [if_pos hx0] at hcn
        have hs : ((cntL (live.take j) : Nat) : Int) + 1 = ((cntL (live.take (j + 1)) : Nat) : Int) := by omega
        (repeat' (first | (apply run_qg 1; (focus rfl); (focus exact wt); (focus rfl); (focus (exact qg1))) | (apply run_qg 2; (focus rfl); (focus exact wt); (focus rfl); (focus (first | exact qg2 | exact qs2))) | (apply run_qg 3; (focus rfl); (focus exact wt); (focus rfl); (focus (first | exact qg3 | exact qs3))) | (apply run_qg 4; (focus rfl); (focus exact wt); (focus rfl); (focus (first | exact qg4 | exact qs4))) | refine cod_seq ?_ | refine cod_region ?_ | refine run_nil ?_ | refine pst_then ?_ | (apply cod_cond_t; (focus rfl)) | refine cod_block ?_ | refine cod_skip ?_ | refine pst_block ?_))
        rw [hs]
        refine pst_again (j + 1) ?_ (FSub.of (by (try dsimp only); exact fsa)) (by (try dsimp only); exact hsa) ?_
        · omega
        · omega
      · rw [if_neg hx0] at hcn
        have hs : cntL (live.take j) = cntL (live.take (j + 1)) := by omega
        rw [hs]
        (repeat' (first | (apply run_qg 1; (focus rfl); (focus exact wt); (focus rfl); (focus (exact qg1))) | (apply run_qg 2; (focus rfl); (focus exact wt); (focus rfl); (focus (first | exact qg2 | exact qs2))) | (apply run_qg 3; (focus rfl); (focus exact wt); (focus rfl); (focus (first | exact qg3 | exact qs3))) | (apply run_qg 4; (focus rfl); (focus exact wt); (focus rfl); (focus (first | exact qg4 | exact qs4))) | refine cod_seq ?_ | refine cod_region ?_ | refine run_nil ?_ | refine pst_then ?_ | (apply cod_cond_t; (focus rfl)) | (apply cod_cond_f; (focus rfl)) | refine cod_block ?_ | refine cod_skip ?_ | refine pst_block ?_))
        refine pst_again (j + 1) ?_ (FSub.of (by (try dsimp only); exact fsa)) (by (try dsimp only); exact hsa) ?_
        · omega
        · omega
    · have hjl : j = live.length := by omega
      subst hjl
      rw [List.take_length, ← hol]
      obtain ⟨N, hN⟩ : ∃ N, live.length = N := ⟨_, rfl⟩
      (repeat' (first | (apply run_qg 1; (focus rfl); (focus exact wt); (focus rfl); (focus (exact qg1))) | (apply run_qg 4; (focus rfl); (focus exact wt); (focus rfl); (focus (first | exact qg4 | exact qs4))) | (apply run_qg 6; (focus rfl); (focus exact wt); (focus rfl); (focus (first | exact qs6 | exact qg6 | exact q_max rfl rfl rfl | exact q_sliceData rfl rfl (by omega) | exact q_sliceDataN rfl rfl | exact q_unsafeStringN rfl rfl rfl | exact q_cap_slice rfl rfl))) | refine cod_seq ?_ | refine cod_region ?_ | refine run_nil ?_ | refine pst_then ?_ | (apply cod_cond_f; (focus rfl)) | refine cod_exit ?_ | refine pst_block_here ?_ | refine pst_then_exit ?_))
      refine run_os wt rfl (opr_make (fI) (0) (c := live.length) rfl rfl rfl (by first | rfl | omega) (by first | rfl | omega) rfl rfl (by omega) (by (unfold maxLen); omega)) ?_
      rintro _ _ ⟨q1, rfl, rfl⟩
      rw [rowN_zero, seen_zero, hN]
      (repeat' (first | (apply run_qg 1; (focus rfl); (focus exact wt); (focus rfl); (focus (exact qg1))) | (apply run_qg 6; (focus rfl); (focus exact wt); (focus rfl); (focus (first | exact qs6 | exact qg6 | exact q_max rfl rfl rfl | exact q_sliceData rfl rfl (by omega) | exact q_sliceDataN rfl rfl | exact q_unsafeStringN rfl rfl rfl | exact q_cap_slice rfl rfl))) | refine cod_seq ?_ | refine cod_region ?_ | refine run_nil ?_ | refine pst_then ?_ | refine cod_block ?_))
      (refine cod_loop_rw (σ := Nat) (fun j => j ≤ os.length) (fun j => [(58, .int .i64 (j : Int))]) (fun j => [own (.slice q1 N N) 3 1 N (flat fI (rowN N (seenF (os.take j))))]) _ (fun j => os.length - j) (0) (by exact Nat.zero_le _) (by exact fsa) (by (first | exact HSub.of_picks_rest (by exact pca))) (fun j hj => ?_); dsimp only [List.cons_append, List.nil_append])
      rcases Nat.lt_or_ge j os.length with hlt | hge2
      · refine cod_shapeN (q := q) (mm := os.length) (cp := c) (e := 3) (sz := 1) (xs := flat fI (os.map (·.1))) pka (by omega) ?_
        rintro g rfl hc
        obtain ⟨⟨z, x, a⟩, ho⟩ : ∃ o, os[j]? = some o := ⟨_, List.getElem?_eq_getElem hlt⟩
        obtain ⟨i, g1, g2, g3, g4⟩ := hmem _ (List.mem_of_getElem? ho)
        dsimp only at g1 g2 g3 g4
        subst g1
        have hil : i < live.length := (List.getElem?_eq_some_iff.1 g2).1
        have hom : (os.map (·.1))[j]? = some (i : Int) := by rw [List.getElem?_map, ho]; rfl
        have hpre : ∀ (k : Nat) (b : One), k < j → os[k]? = some b → b.1 ≠ (i : Int) ∧ better (((i : Int), x, a) : One) b = false := fun k b hk hb => by
          obtain ⟨t1, t2⟩ := List.getElem?_eq_some_iff.1 hb
          obtain ⟨t3, t4⟩ := List.getElem?_eq_some_iff.1 ho
          have u1 := List.pairwise_iff_getElem.1 hnod k j t1 t3 hk
          have u2 := List.pairwise_iff_getElem.1 hsort k j t1 t3 hk
          rw [t2, t4] at u1 u2
          exact ⟨u1, u2⟩
        have hsn : seenF (os.take j) i = 0 := seen_no (o := ((i : Int), x, a)) rfl fun b hb => by
          obtain ⟨k, hk, e⟩ := List.mem_iff_getElem.1 hb
          rw [List.length_take] at hk
          exact (hpre k b (by omega) (by rw [List.getElem?_eq_getElem (by omega), ← e, List.getElem_take])).1
        have hsA : (rowN N (seenF (os.take j)))[i]? = some 0 := by rw [rowN_at _ (by omega), hsn]; rfl
        have hnx := seen_next (os.take j) ((i : Int), x, a) (i := i) rfl
        have htk : os.take j ++ [((i : Int), x, a)] = os.take (j + 1) := by rw [List.take_add_one, ho]; rfl
        rw [htk] at hnx
        (repeat' (first | (apply run_qg 1; (focus rfl); (focus exact wt); (focus rfl); (focus (exact qg1))) | (apply run_qg 2; (focus rfl); (focus exact wt); (focus rfl); (focus (first | exact qg2 | exact qs2))) | (apply run_qg 3; (focus rfl); (focus exact wt); (focus rfl); (focus (first | exact qg3 | exact qs3))) | (apply run_qg 4; (focus rfl); (focus exact wt); (focus rfl); (focus (first | exact qg4 | exact qs4))) | (apply run_qg 6; (focus rfl); (focus exact wt); (focus rfl); (focus (first | exact qs6 | exact qg6 | exact q_max rfl rfl rfl | exact q_sliceData rfl rfl (by omega) | exact q_sliceDataN rfl rfl | exact q_unsafeStringN rfl rfl rfl | exact q_cap_slice rfl rfl))) | refine cod_seq ?_ | refine cod_region ?_ | refine run_nil ?_ | refine pst_then ?_ | (apply cod_cond_t; (focus rfl)) | (apply cod_cond_f; (focus rfl)) | refine cod_block ?_ | refine cod_skip ?_))
        (refine run_on wt (opr_store_ownm (f := fI) (q' := ((1 : Nat) : Int)) rfl rfl rfl rfl (by exact pka) rfl (by omega) (by intro _; rfl) (by assumption) rfl rfl (by rfl)) ?_; rintro _ _ ⟨rfl, rfl⟩)
        rw [rowN_set _ _ (by omega), hnx]
        (repeat' (first | (apply run_qg 1; (focus rfl); (focus exact wt); (focus rfl); (focus (exact qg1))) | (apply run_qg 6; (focus rfl); (focus exact wt); (focus rfl); (focus (first | exact qs6 | exact qg6 | exact q_max rfl rfl rfl | exact q_sliceData rfl rfl (by omega) | exact q_sliceDataN rfl rfl | exact q_unsafeStringN rfl rfl rfl | exact q_cap_slice rfl rfl))) | (apply run_qg 12; (focus rfl); (focus exact wt); (focus rfl); (focus (first | exact qs12 | exact q_cutp rfl rfl rfl rfl (by omega) (by omega) | exact q_slice_cap rfl rfl rfl rfl (by omega)))) | refine cod_seq ?_ | refine cod_region ?_ | refine run_nil ?_ | refine pst_then ?_ | refine cod_block ?_))
        (refine cod_loop_ro (σ := Nat) (fun k => k ≤ j) (fun k => [(92, .int .i64 (k : Int))]) (fun k => j - k) (0) (by exact Nat.zero_le _) (by exact fsa) (fun k hk => ?_); dsimp only [List.cons_append, List.nil_append])
        rcases Nat.lt_or_ge k j with hlk | hgk
        · obtain ⟨⟨z2, x2, a2⟩, ho2⟩ : ∃ o, os[k]? = some o := ⟨_, List.getElem?_eq_getElem (by omega)⟩
          obtain ⟨i2, f1, f2, f3, f4⟩ := hmem _ (List.mem_of_getElem? ho2)
          dsimp only at f1 f2 f3 f4
          subst f1
          have hil2 : i2 < live.length := (List.getElem?_eq_some_iff.1 f2).1
          have hom2 : (os.map (·.1))[k]? = some (i2 : Int) := by rw [List.getElem?_map, ho2]; rfl
          have hno : x2 ≤ x ∨ a < a2 := by
            rcases Int.lt_or_le x x2 with u1 | u1
            · rcases Int.lt_or_le a a2 with u2 | u2
              · exact .inr u2
              · have := more_better (hok _ (List.mem_of_getElem? ho)) (hok _ (List.mem_of_getElem? ho2)) u1 u2
                rw [(hpre k _ hlk ho2).2] at this
                cases this
            · exact .inl u1
          (repeat' (first | (apply run_qg 4; (focus rfl); (focus exact wt); (focus rfl); (focus (first | exact qg4 | exact qs4))) | refine cod_seq ?_ | refine cod_region ?_ | refine run_nil ?_ | refine pst_then ?_ | (apply cod_cond_t; (focus rfl)) | refine cod_block ?_ | refine cod_skip ?_))
          refine run_qs wt rfl (q_index_raw (m := os.length) (c := c) (i := k) rfl rfl rfl rfl (by omega)) ?_
          (repeat' (first | (apply run_qg 1; (focus rfl); (focus exact wt); (focus rfl); (focus (exact qg1))) | (apply run_qg 2; (focus rfl); (focus exact wt); (focus rfl); (focus (first | exact qg2 | exact qs2))) | (apply run_qg 4; (focus rfl); (focus exact wt); (focus rfl); (focus (first | exact qg4 | exact qs4))) | refine cod_seq ?_ | refine cod_region ?_ | refine run_nil ?_ | refine pst_then ?_ | (apply cod_cond_f; (focus rfl)) | refine cod_skip ?_ | refine pst_block ?_ | (apply cod_drawn_k; (focus kernel_rfl); (focus (simp only [List.length_cons, List.length_nil, Nat.reduceAdd]; rfl))) | (apply drnK_take 1; (focus rfl); (focus rfl); (focus exact wt); (focus (decide +kernel)); (focus exact hsq); (focus rfl); (focus (exact qg1))) | (apply drnK_take 2; (focus rfl); (focus rfl); (focus exact wt); (focus (decide +kernel)); (focus exact hsq); (focus rfl); (focus (first | exact qg2 | exact qs2))) | (apply drnK_take 3; (focus rfl); (focus rfl); (focus exact wt); (focus (decide +kernel)); (focus exact hsq); (focus rfl); (focus (first | exact qg3 | exact qs3))) | (apply drnK_take 4; (focus rfl); (focus rfl); (focus exact wt); (focus (decide +kernel)); (focus exact hsq); (focus rfl); (focus (first | exact qg4 | exact qs4))) | (apply drnK_off; (focus rfl); (focus rfl); (focus rfl); (focus (decide +kernel)); (focus exact hsq); (focus rfl)) | (apply drnK_end; (focus (decide +kernel))) | (apply drnK_lss; (focus rfl); (focus rfl); (focus rfl); (focus exact wt); (focus (decide +kernel)); (focus exact hsq); (focus rfl); (all_goals (intro h)))))
          all_goals first | (exfalso; omega) | skip
          all_goals refine pst_again (k + 1) ?_ (FSub.of (by (try dsimp only); exact fsa)) (by (try dsimp only); exact hsa) ?_
          all_goals omega
        · have hkj : k = j := by omega
          subst hkj
          (repeat' (first | (apply run_qg 1; (focus rfl); (focus exact wt); (focus rfl); (focus (exact qg1))) | (apply run_qg 4; (focus rfl); (focus exact wt); (focus rfl); (focus (first | exact qg4 | exact qs4))) | refine cod_seq ?_ | refine cod_region ?_ | refine run_nil ?_ | refine pst_then ?_ | (apply cod_cond_f; (focus rfl)) | refine cod_exit ?_ | refine pst_block_here ?_ | refine pst_then_exit ?_ | refine pst_block ?_))
          refine pst_again (k + 1) ?_ (FSub.of (by (try dsimp only); exact fsa)) (by (try dsimp only); exact hsa) ?_
          · omega
          · omega
      · have hjl : j = os.length := by omega
        subst hjl
        (repeat' (first | (apply run_qg 1; (focus rfl); (focus exact wt); (focus rfl); (focus (exact qg1))) | (apply run_qg 4; (focus rfl); (focus exact wt); (focus rfl); (focus (first | exact qg4 | exact qs4))) | (apply run_qg 6; (focus rfl); (focus exact wt); (focus rfl); (focus (first | exact qs6 | exact qg6 | exact q_max rfl rfl rfl | exact q_sliceData rfl rfl (by omega) | exact q_sliceDataN rfl rfl | exact q_unsafeStringN rfl rfl rfl | exact q_cap_slice rfl rfl))) | refine cod_seq ?_ | refine cod_region ?_ | refine run_nil ?_ | refine pst_then ?_ | (apply cod_cond_f; (focus rfl)) | refine cod_exit ?_ | refine cod_ret ?_ | refine pst_block_here ?_ | refine pst_then_exit ?_))
        exact pst_fin rfl (by exact resa) _ (⟨rfl, rfl⟩) (by exact hsa)
theorem walk (W : World) (a : Value) (l : List Int) (ha : SliceAt W 1 a (l.map fun z : Int => [Value.int .i64 z])) (ga : ∀ z ∈ l, (Lit.int .i64 z).wf = true) (na : l.length * Try.prog.bytesOf 3 ≤ reachBytes)
    (b : Value) (l2 : List Int) (hb : SliceAt W 1 b (l2.map fun z : Int => [Value.int .i64 z])) (gb : ∀ z ∈ l2, (Lit.int .i64 z).wf = true) (nb : l2.length * Try.prog.bytesOf 3 ≤ reachBytes) :
    Calls Try.prog 3 #[a, b] W fun e w' => e = .returned (.bool true) ∧ Below W.heap.size W w' := by
  have hr : reachBytes = 140737488351232 := rfl
  have h8 : Try.prog.bytesOf 3 = 8 := by kernel_rfl
  rw [hr, h8] at na nb
  obtain ⟨qa, ca, rfl⟩ := slice_shape ha
  obtain ⟨qb, cb, rfl⟩ := slice_shape hb
  simp only [List.length_map] at ha hb ⊢
  exact law_of_ct (sh_cons ha (sh_cons hb sh_nil)) (law_any qa qb ca cb l l2 (by unfold maxLen; omega) (by unfold maxLen; omega))
end Go.Proofs.Ytkkgmgffkjeklaa.lawPickMore
