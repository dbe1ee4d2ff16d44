/-
  dir: seek, Find: what they answer, and the walks.
-/
import Derived.Test.YtknclflgghnojaaDir
import Derived.Test.YtknclflgghnojaaSlCallV
namespace Go.Proofs.Ytknclflgghnojaa.dir
open Go.RowKit kit sl Go.Proofs.Ytknclflgghnojaa.nam
set_option linter.unusedVariables false
/-- where a name stands, or would -/
def posD (l : List DEnt) (s : List UInt8) : Nat := (l.takeWhile fun p => blt p.1 s).length
def isD (l : List DEnt) (s : List UInt8) : Bool := match l[posD l s]? with | some p => decide (p.1 = s) | none => false
theorem posD_le (l : List DEnt) (s : List UInt8) : posD l s ≤ l.length := by
  unfold posD
  exact (List.takeWhile_sublist _).length_le
theorem posD_iff : ∀ {l : List DEnt} {s : List UInt8}, (l.Pairwise fun a b => blt a.1 b.1 = true) → ∀ {k : Nat} {p : DEnt}, l[k]? = some p → (blt p.1 s = true ↔ k < posD l s)
  | [], _, _, _, _, h => by cases h
  | x :: l, s, hp, 0, p, h => by
    cases h
    unfold posD
    rw [List.takeWhile_cons]
    cases hx : blt x.1 s with
    | true => simp
    | false => simp
  | x :: l, s, hp, k + 1, p, h => by
    have h1 := List.pairwise_cons.1 hp
    have h2 : l[k]? = some p := h
    have ih := posD_iff (s := s) h1.2 h2
    unfold posD at ih ⊢
    rw [List.takeWhile_cons]
    cases hx : blt x.1 s with
    | true =>
      simp only [if_true, List.length_cons]
      rw [ih]
      omega
    | false =>
      have h3 := h1.1 p (List.mem_of_getElem? h2)
      constructor
      · intro h4
        have := blt_trans h3 h4
        rw [hx] at this
        cases this
      · intro h4
        simp at h4
theorem isD_iff {l : List DEnt} {s : List UInt8} (hp : l.Pairwise fun a b => blt a.1 b.1 = true) : isD l s = true ↔ ∃ p ∈ l, p.1 = s := by
  unfold isD
  constructor
  · intro h
    cases hq : l[posD l s]? with
    | none => rw [hq] at h; cases h
    | some p =>
      rw [hq] at h
      exact ⟨p, List.mem_of_getElem? hq, by simpa using h⟩
  · rintro ⟨p, hm, rfl⟩
    obtain ⟨k, hk⟩ := List.getElem?_of_mem hm
    have h1 := posD_iff (s := p.1) hp hk
    rw [blt_irrefl] at h1
    have h2 : ¬ k < posD l p.1 := fun h => by have := h1.2 h; cases this
    have h3 : posD l p.1 = k := by
      rcases Nat.lt_or_ge (posD l p.1) k with h | h
      · obtain ⟨q, hq⟩ : ∃ q, l[posD l p.1]? = some q := ⟨_, List.getElem?_eq_getElem (Nat.lt_trans h (List.getElem?_eq_some_iff.1 hk).1)⟩
        have h4 := posD_iff (s := p.1) hp hq
        have h5 := List.pairwise_iff_getElem.1 hp _ _ (List.getElem?_eq_some_iff.1 hq).1 (List.getElem?_eq_some_iff.1 hk).1 h
        rw [(List.getElem?_eq_some_iff.1 hq).2, (List.getElem?_eq_some_iff.1 hk).2] at h5
        exact absurd (h4.1 h5) (Nat.lt_irrefl _)
      · omega
    rw [h3, hk]
    simp
theorem compare_any (a b : List UInt8) : Ct Try.prog 83 [.string (str a), .string (str b)] [] fun v H' => v = .int .i64 (Lib.compareBytes a b) ∧ H' = [] :=
  ct_of_calls fun w _ => (Try.strings_Compare (str a) (str b) w).mono fun e w' ⟨h1, h2⟩ => ⟨h1, by rw [h2]; exact Below.refl _ _⟩
def cmpN (a b : List UInt8) : Int := if blt a b then -1 else if a = b then 0 else 1
attribute [local irreducible] box own sl old bptr eptr Qt Opr Run Cod Pst Drn
set_option maxRecDepth 100000 in
set_option maxHeartbeats 8000000 in
theorem clos_any (p : DEnt) (s : List UInt8) : Ct Try.prog 82 [.agg #[.string (str p.1), .int .i64 p.2], .string (str s)] [] fun v H' => v = .int .i64 (cmpN p.1 s) ∧ H' = [] := by
  have C0 := compare_any p.1 s
  rw [cmp_blt] at C0
  unfold cmpN
  generalize (if blt p.1 s = true then (-1 : Int) else if p.1 = s then 0 else 1) = r at *
  (refine spec_enter Try.func82 Try.ntmps82 rfl rfl fun Fr => ?_; dsimp only [List.cons_append, List.nil_append, ini, Nat.reduceAdd])
  (repeat' (first | (apply run_qg 1; (focus rfl); (focus exact wt); (focus rfl); (focus (exact qg1))) | (apply run_qg 2; (focus rfl); (focus exact wt); (focus rfl); (focus (first | exact qg2 | exact qs2))) | (apply run_qg 3; (focus rfl); (focus exact wt); (focus rfl); (focus (first | exact qg3 | exact qs3))) | refine cod_seq ?_ | refine cod_region ?_ | refine run_nil ?_ | refine pst_then ?_ | refine cod_ret ?_ | (apply run_osg 8; (focus rfl); (focus exact wt); (focus rfl); (focus (exact opr_box_agg rfl rfl)); (rintro _ _ ⟨b, rfl, rfl⟩)) | (apply run_osg 7; (focus rfl); (focus exact wt); (focus rfl); (focus (exact opr_call_ls (by rfl) (C0 ..) (by rfl) lpa)); (rintro _ _ ⟨rfl, rfl⟩))))
  exact pst_fin rfl (by exact resa) _ (⟨rfl, rfl⟩) (by exact hsa)
set_option maxRecDepth 100000 in
set_option maxHeartbeats 8000000 in
theorem search_any (q : Option Addr) (c : Nat) (l : List DEnt) (s : List UInt8) (hn : l.length ≤ 24) (hp : l.Pairwise fun a b => blt a.1 b.1 = true) :
    Ct Try.prog 81 [.slice q l.length c, .string (str s), .func (.func 82) #[] #[]] [sl 2 (.slice q l.length c) (l.map fE)] fun v H' => v = .tuple #[.int .i64 (posD l s : Int), .bool (isD l s)] ∧ H' = [] := by
  have hle := posD_le l s
  (refine spec_enter Try.func81 Try.ntmps81 rfl rfl fun Fr => ?_; dsimp only [List.cons_append, List.nil_append, ini, Nat.reduceAdd])
  (repeat' (first | (apply run_qg 1; (focus rfl); (focus exact wt); (focus rfl); (focus (exact qg1))) | (apply run_qg 6; (focus rfl); (focus exact wt); (focus rfl); (focus (first | exact qs6 | exact qg6 | exact q_max rfl rfl rfl | exact q_sliceData rfl rfl (by omega) | exact q_sliceDataN rfl rfl | exact q_unsafeStringN rfl rfl rfl | exact q_cap_slice rfl rfl))) | refine cod_seq ?_ | refine cod_region ?_ | refine run_nil ?_ | refine pst_then ?_ | refine cod_block ?_))
  (refine cod_loop_ro (σ := Nat × Nat) (fun x => x.1 ≤ posD l s ∧ posD l s ≤ x.2 ∧ x.2 ≤ l.length) (fun x => [(9, .int .i64 (x.1 : Int)), (10, .int .i64 (x.2 : Int))]) (fun x => x.2 - x.1) ((0, l.length)) (by exact ⟨Nat.zero_le _, hle, Nat.le_refl _⟩) (by exact fsa) (fun ⟨i, j⟩ ⟨hi, hj, hjl⟩ => ?_); dsimp only [List.cons_append, List.nil_append])
  dsimp only at hi hj hjl
  rcases Nat.lt_or_ge i j with hlt | hge
  · obtain ⟨p, hpm⟩ : ∃ p, l[(i + j) / 2]? = some p := ⟨_, List.getElem?_eq_getElem (by omega)⟩
    have hq : (i + j) / 2 < l.length := by omega
    have K0 := clos_any p s
    have hi2 := posD_iff (s := s) hp hpm
    cases hb : blt p.1 s with
    | true =>
      have h2 := hi2.1 hb
      rw [show cmpN p.1 s = -1 from by unfold cmpN; rw [if_pos hb]] at K0
      (repeat' (first | (apply run_qg 1; (focus rfl); (focus exact wt); (focus rfl); (focus (exact qg1))) | (apply run_qg 2; (focus rfl); (focus exact wt); (focus rfl); (focus (first | exact qg2 | exact qs2))) | (apply run_qg 3; (focus rfl); (focus exact wt); (focus rfl); (focus (first | exact qg3 | exact qs3))) | (apply run_qg 4; (focus rfl); (focus exact wt); (focus rfl); (focus (first | exact qg4 | exact qs4))) | (apply run_qg 11; (focus rfl); (focus exact wt); (focus rfl); (focus (exact qs11))) | refine cod_seq ?_ | refine cod_region ?_ | refine run_nil ?_ | refine pst_then ?_ | (apply cod_cond_t; (focus rfl)) | refine cod_block ?_ | refine cod_skip ?_ | refine pst_block ?_ | (apply run_osg 7; (focus rfl); (focus exact wt); (focus rfl); (focus (exact opr_callv_ls (by rfl) (by rfl) (by rfl) (K0 ..) (by rfl) lpa)); (rintro _ _ ⟨rfl, rfl⟩))))
      refine pst_again (((i + j) / 2 + 1, j)) ?_ (FSub.of (by (try dsimp only); exact fsa)) (by (try dsimp only); exact hsa) ?_
      · exact ⟨h2, hj, hjl⟩
      · show j - ((i + j) / 2 + 1) < j - i
        omega
    | false =>
      have h2 : ¬ (i + j) / 2 < posD l s := fun h => by rw [hi2.2 h] at hb; cases hb
      obtain ⟨r, hr, hr0⟩ : ∃ r, cmpN p.1 s = r ∧ 0 ≤ r := ⟨_, rfl, by unfold cmpN; rw [if_neg (by simp [hb])]; split <;> decide⟩
      rw [hr] at K0
      (repeat' (first | (apply run_qg 1; (focus rfl); (focus exact wt); (focus rfl); (focus (exact qg1))) | (apply run_qg 2; (focus rfl); (focus exact wt); (focus rfl); (focus (first | exact qg2 | exact qs2))) | (apply run_qg 3; (focus rfl); (focus exact wt); (focus rfl); (focus (first | exact qg3 | exact qs3))) | (apply run_qg 4; (focus rfl); (focus exact wt); (focus rfl); (focus (first | exact qg4 | exact qs4))) | (apply run_qg 11; (focus rfl); (focus exact wt); (focus rfl); (focus (exact qs11))) | refine cod_seq ?_ | refine cod_region ?_ | refine run_nil ?_ | refine pst_then ?_ | (apply cod_cond_t; (focus rfl)) | (apply cod_cond_f; (focus rfl)) | refine cod_block ?_ | refine cod_skip ?_ | refine pst_block ?_ | (apply run_osg 7; (focus rfl); (focus exact wt); (focus rfl); (focus (exact opr_callv_ls (by rfl) (by rfl) (by rfl) (K0 ..) (by rfl) lpa)); (rintro _ _ ⟨rfl, rfl⟩))))
      refine pst_again ((i, (i + j) / 2)) ?_ (FSub.of (by (try dsimp only); exact fsa)) (by (try dsimp only); exact hsa) ?_
      · exact ⟨hi, by omega, by omega⟩
      · show (i + j) / 2 - i < j - i
        omega
  · have hij : i = posD l s := by omega
    have hjj : j = posD l s := by omega
    subst hij
    have hjn : j ≤ posD l s := hge
    clear hi hj hjj hge
    rcases Nat.lt_or_ge (posD l s) l.length with hlt | hge
    · obtain ⟨p, hpm⟩ : ∃ p, l[posD l s]? = some p := ⟨_, List.getElem?_eq_getElem hlt⟩
      have K0 := clos_any p s
      have hi2 := posD_iff (s := s) hp hpm
      have hb : blt p.1 s = false := by
        cases hb : blt p.1 s with
        | false => rfl
        | true => exact absurd (hi2.1 hb) (Nat.lt_irrefl _)
      by_cases he : p.1 = s
      · have e : isD l s = true := by unfold isD; rw [hpm]; simp [he]
        rw [show cmpN p.1 s = 0 from by unfold cmpN; rw [if_neg (by simp [hb]), if_pos he]] at K0
        rw [e]
        clear hi2 hb he
        (repeat' (first | (apply run_qg 1; (focus rfl); (focus exact wt); (focus rfl); (focus (exact qg1))) | (apply run_qg 2; (focus rfl); (focus exact wt); (focus rfl); (focus (first | exact qg2 | exact qs2))) | (apply run_qg 3; (focus rfl); (focus exact wt); (focus rfl); (focus (first | exact qg3 | exact qs3))) | (apply run_qg 4; (focus rfl); (focus exact wt); (focus rfl); (focus (first | exact qg4 | exact qs4))) | refine cod_seq ?_ | refine cod_region ?_ | refine run_nil ?_ | refine pst_then ?_ | (apply cod_cond_f; (focus rfl)) | refine cod_exit ?_ | refine cod_ret ?_ | refine pst_block_here ?_ | refine pst_then_exit ?_ | (apply run_osg 7; (focus rfl); (focus exact wt); (focus rfl); (focus (exact opr_callv_ls (by rfl) (by rfl) (by rfl) (K0 ..) (by rfl) lpa)); (rintro _ _ ⟨rfl, rfl⟩))))
        exact pst_fin rfl (by exact resa) _ (⟨rfl, rfl⟩) (by exact hsa)
      · have e : isD l s = false := by unfold isD; rw [hpm]; simp [he]
        rw [show cmpN p.1 s = 1 from by unfold cmpN; rw [if_neg (by simp [hb]), if_neg he]] at K0
        rw [e]
        clear hi2 hb he
        (repeat' (first | (apply run_qg 1; (focus rfl); (focus exact wt); (focus rfl); (focus (exact qg1))) | (apply run_qg 2; (focus rfl); (focus exact wt); (focus rfl); (focus (first | exact qg2 | exact qs2))) | (apply run_qg 3; (focus rfl); (focus exact wt); (focus rfl); (focus (first | exact qg3 | exact qs3))) | (apply run_qg 4; (focus rfl); (focus exact wt); (focus rfl); (focus (first | exact qg4 | exact qs4))) | refine cod_seq ?_ | refine cod_region ?_ | refine run_nil ?_ | refine pst_then ?_ | (apply cod_cond_f; (focus rfl)) | refine cod_exit ?_ | refine cod_ret ?_ | refine pst_block_here ?_ | refine pst_then_exit ?_ | (apply run_osg 7; (focus rfl); (focus exact wt); (focus rfl); (focus (exact opr_callv_ls (by rfl) (by rfl) (by rfl) (K0 ..) (by rfl) lpa)); (rintro _ _ ⟨rfl, rfl⟩))))
        exact pst_fin rfl (by exact resa) _ (⟨rfl, rfl⟩) (by exact hsa)
    · have e : isD l s = false := by unfold isD; rw [List.getElem?_eq_none hge]
      rw [e]
      (repeat' (first | (apply run_qg 1; (focus rfl); (focus exact wt); (focus rfl); (focus (exact qg1))) | (apply run_qg 4; (focus rfl); (focus exact wt); (focus rfl); (focus (first | exact qg4 | exact qs4))) | refine cod_seq ?_ | refine cod_region ?_ | refine run_nil ?_ | refine pst_then ?_ | (apply cod_cond_f; (focus rfl)) | refine cod_exit ?_ | refine cod_ret ?_ | refine pst_block_here ?_ | refine pst_then_exit ?_ | (apply run_offs; (focus rfl); (focus rfl); (focus rfl))))
      exact pst_fin rfl (by exact resa) _ (⟨rfl, rfl⟩) (by exact hsa)
set_option maxRecDepth 100000 in
set_option maxHeartbeats 8000000 in
theorem seek_any (q : Option Addr) (c : Nat) (l : List DEnt) (s : List UInt8) (hn : l.length ≤ 24) (hp : l.Pairwise fun a b => blt a.1 b.1 = true) :
    Ct Try.prog 67 [.slice q l.length c, .string (str s)] [sl 2 (.slice q l.length c) (l.map fE)] fun v H' => v = .tuple #[.int .i64 (posD l s : Int), .bool (isD l s)] ∧ H' = [] := by
  have S0 := search_any q c l s hn hp
  (refine spec_enter Try.func67 Try.ntmps67 rfl rfl fun Fr => ?_; dsimp only [List.cons_append, List.nil_append, ini, Nat.reduceAdd])
  (repeat' (first | (apply run_qg 1; (focus rfl); (focus exact wt); (focus rfl); (focus (exact qg1))) | refine cod_seq ?_ | refine cod_region ?_ | refine run_nil ?_ | refine pst_then ?_ | refine cod_ret ?_ | (apply run_osg 7; (focus rfl); (focus exact wt); (focus rfl); (focus (exact opr_call_ls (by rfl) (S0 ..) (by rfl) lpa)); (rintro _ _ ⟨rfl, rfl⟩))))
  exact pst_fin rfl (by exact resa) _ (⟨rfl, rfl⟩) (by exact hsa)
/-- what Find answers -/
def findE (l : List DEnt) (s : List UInt8) : Int := if checkD l ≠ 0 then checkD l else if ¬ goodN s then 11 else if isD l s then 0 else 12
def findV (l : List DEnt) (s : List UInt8) : Int := if findE l s = 0 then (match l[posD l s]? with | some p => p.2 | none => 0) else 0
set_option maxRecDepth 100000 in
set_option maxHeartbeats 8000000 in
theorem find_any (q : Option Addr) (c : Nat) (l : List DEnt) (s : List UInt8) (hn : l.length ≤ 1000000000000000000) (hs : ∀ p ∈ l, p.1.length ≤ 9223372036854775807) (ht : s.length ≤ 9223372036854775807) :
    Ct Try.prog 40 [.slice q l.length c, .string (str s)] [sl 2 (.slice q l.length c) (l.map fE)] fun v H' => v = .tuple #[.int .i64 (findV l s), .int .i64 (findE l s)] ∧ H' = [] := by
  have C0 := check_any q c l hn hs
  have G0 := good_any s ht
  by_cases h0 : checkD l = 0
  · obtain ⟨g1, g2, g3⟩ := (checkD_iff l).1 h0
    rw [h0] at C0
    by_cases h1 : goodN s
    · have e : goodE s = 0 := by unfold goodE; rw [if_pos h1]
      rw [e] at G0
      have S0 := seek_any q c l s g1 g3
      cases hi : isD l s with
      | true =>
        have e2 : findE l s = 0 := by unfold findE; rw [if_neg (by simpa using h0), if_neg (by simpa using h1), hi, if_pos rfl]
        have hx : ∃ p, l[posD l s]? = some p := by
          unfold isD at hi
          cases hq : l[posD l s]? with
          | none => rw [hq] at hi; cases hi
          | some p => exact ⟨p, rfl⟩
        obtain ⟨p, hpk⟩ := hx
        have e3 : findV l s = p.2 := by unfold findV; rw [if_pos e2, hpk]
        have hlt := (List.getElem?_eq_some_iff.1 hpk).1
        rw [e2, e3]
        rw [hi] at S0
        generalize posD l s = k at *
        clear e e2 e3 g2 g3 hs hi
        (refine spec_enter Try.func40 Try.ntmps40 rfl rfl fun Fr => ?_; dsimp only [List.cons_append, List.nil_append, ini, Nat.reduceAdd])
        (repeat' (first | (apply run_qg 1; (focus rfl); (focus exact wt); (focus rfl); (focus (exact qg1))) | (apply run_qg 2; (focus rfl); (focus exact wt); (focus rfl); (focus (first | exact qg2 | exact qs2))) | (apply run_qg 3; (focus rfl); (focus exact wt); (focus rfl); (focus (first | exact qg3 | exact qs3))) | (apply run_qg 4; (focus rfl); (focus exact wt); (focus rfl); (focus (first | exact qg4 | exact qs4))) | refine cod_seq ?_ | refine cod_region ?_ | refine run_nil ?_ | refine pst_then ?_ | (apply cod_cond_f; (focus rfl)) | refine cod_ret ?_ | refine cod_skip ?_ | (apply run_osg 7; (focus rfl); (focus exact wt); (focus rfl); (focus (exact opr_call_ls (by rfl) (C0 ..) (by rfl) lpa)); (rintro _ _ ⟨rfl, rfl⟩)) | (apply run_osg 7; (focus rfl); (focus exact wt); (focus rfl); (focus (exact opr_call_ls (by rfl) (G0 ..) (by rfl) lpa)); (rintro _ _ ⟨rfl, rfl⟩)) | (apply run_osg 7; (focus rfl); (focus exact wt); (focus rfl); (focus (exact opr_call_ls (by rfl) (S0 ..) (by rfl) lpa)); (rintro _ _ ⟨rfl, rfl⟩))))
        exact pst_fin rfl (by exact resa) _ (⟨rfl, rfl⟩) (by exact hsa)
      | false =>
        have e2 : findE l s = 12 := by unfold findE; rw [if_neg (by simpa using h0), if_neg (by simpa using h1), hi, if_neg (by simp)]
        have e3 : findV l s = 0 := by unfold findV; rw [if_neg (by omega)]
        rw [e2, e3]
        rw [hi] at S0
        generalize posD l s = k at *
        clear e e2 e3 g2 g3 hs hi
        (refine spec_enter Try.func40 Try.ntmps40 rfl rfl fun Fr => ?_; dsimp only [List.cons_append, List.nil_append, ini, Nat.reduceAdd])
        (repeat' (first | (apply run_qg 1; (focus rfl); (focus exact wt); (focus rfl); (focus (exact qg1))) | (apply run_qg 4; (focus rfl); (focus exact wt); (focus rfl); (focus (first | exact qg4 | exact qs4))) | refine cod_seq ?_ | refine cod_region ?_ | refine run_nil ?_ | refine pst_then ?_ | (apply cod_cond_t; (focus rfl)) | (apply cod_cond_f; (focus rfl)) | refine cod_ret ?_ | refine cod_skip ?_ | refine pst_then_ret ?_ | (apply run_osg 7; (focus rfl); (focus exact wt); (focus rfl); (focus (exact opr_call_ls (by rfl) (C0 ..) (by rfl) lpa)); (rintro _ _ ⟨rfl, rfl⟩)) | (apply run_osg 7; (focus rfl); (focus exact wt); (focus rfl); (focus (exact opr_call_ls (by rfl) (G0 ..) (by rfl) lpa)); (rintro _ _ ⟨rfl, rfl⟩)) | (apply run_osg 7; (focus rfl); (focus exact wt); (focus rfl); (focus (exact opr_call_ls (by rfl) (S0 ..) (by rfl) lpa)); (rintro _ _ ⟨rfl, rfl⟩))))
        exact pst_fin rfl (by exact resa) _ (⟨rfl, rfl⟩) (by exact hsa)
    · have e : goodE s = 11 := by unfold goodE; rw [if_neg h1]
      rw [e] at G0
      have e2 : findE l s = 11 := by unfold findE; rw [if_neg (by simpa using h0), if_pos h1]
      have e3 : findV l s = 0 := by unfold findV; rw [if_neg (by omega)]
      rw [e2, e3]
      clear e e2 e3
      (refine spec_enter Try.func40 Try.ntmps40 rfl rfl fun Fr => ?_; dsimp only [List.cons_append, List.nil_append, ini, Nat.reduceAdd])
      (repeat' (first | (apply run_qg 1; (focus rfl); (focus exact wt); (focus rfl); (focus (exact qg1))) | (apply run_qg 4; (focus rfl); (focus exact wt); (focus rfl); (focus (first | exact qg4 | exact qs4))) | refine cod_seq ?_ | refine cod_region ?_ | refine run_nil ?_ | refine pst_then ?_ | (apply cod_cond_t; (focus rfl)) | (apply cod_cond_f; (focus rfl)) | refine cod_ret ?_ | refine cod_skip ?_ | refine pst_then_ret ?_ | (apply run_osg 7; (focus rfl); (focus exact wt); (focus rfl); (focus (exact opr_call_ls (by rfl) (C0 ..) (by rfl) lpa)); (rintro _ _ ⟨rfl, rfl⟩)) | (apply run_osg 7; (focus rfl); (focus exact wt); (focus rfl); (focus (exact opr_call_ls (by rfl) (G0 ..) (by rfl) lpa)); (rintro _ _ ⟨rfl, rfl⟩))))
      exact pst_fin rfl (by exact resa) _ (⟨rfl, rfl⟩) (by exact hsa)
  · have e2 : findE l s = checkD l := by unfold findE; rw [if_pos h0]
    have e3 : findV l s = 0 := by unfold findV; rw [if_neg (by omega)]
    rw [e2, e3]
    clear e2 e3
    generalize checkD l = e at *
    (refine spec_enter Try.func40 Try.ntmps40 rfl rfl fun Fr => ?_; dsimp only [List.cons_append, List.nil_append, ini, Nat.reduceAdd])
    (repeat' (first | (apply run_qg 1; (focus rfl); (focus exact wt); (focus rfl); (focus (exact qg1))) | (apply run_qg 4; (focus rfl); (focus exact wt); (focus rfl); (focus (first | exact qg4 | exact qs4))) | refine cod_seq ?_ | refine cod_region ?_ | refine run_nil ?_ | refine pst_then ?_ | (apply cod_cond_t; (focus rfl)) | refine cod_ret ?_ | refine pst_then_ret ?_ | (apply run_osg 7; (focus rfl); (focus exact wt); (focus rfl); (focus (exact opr_call_ls (by rfl) (C0 ..) (by rfl) lpa)); (rintro _ _ ⟨rfl, rfl⟩))))
    exact pst_fin rfl (by exact resa) _ (⟨rfl, rfl⟩) (by exact hsa)
end Go.Proofs.Ytknclflgghnojaa.dir
