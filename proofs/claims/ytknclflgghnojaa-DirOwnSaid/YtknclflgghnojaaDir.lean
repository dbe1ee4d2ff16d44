/-
  dir: fit, Check: what they answer, and the walks.
-/
import Derived.Test.YtknclflgghnojaaNameOrder
namespace Go.Proofs.Ytknclflgghnojaa.dir
open Go.RowKit kit sl Go.Proofs.Ytknclflgghnojaa.nam
set_option linter.unusedVariables false
abbrev DEnt := List UInt8 × Int
def fE (p : DEnt) : List Value := [.string (str p.1), .int .i64 p.2]
theorem one_fE (p : DEnt) : ∀ u ∈ fE p, u.oneCell' = true := by simp [fE, Value.oneCell']
def toE (p : ByteArray × Int) : DEnt := (p.1.data.toList, p.2)
def toES (p : DEnt) : ByteArray × Int := (str p.1, p.2)
theorem toES_inj {p q : DEnt} (h : toES p = toES q) : p = q := by
  obtain ⟨a, b⟩ := p
  obtain ⟨a', b'⟩ := q
  simp only [toES, Prod.mk.injEq] at h ⊢
  exact ⟨str_eq h.1, h.2⟩
theorem pln_E (p q : DEnt) : eqPlan [(0, 1), (1, 0)] (fE p) (fE p) = some true ∧ (p ≠ q → eqPlan [(0, 1), (1, 0)] (fE p) (fE q) = some false) :=
  ⟨(pln_SI (toES p) (toES q)).1, fun h => (pln_SI (toES p) (toES q)).2 fun e => h (toES_inj e)⟩
instance (priority := 2000) : EqV Try.prog 62 (fun p => Value.agg (fE p).toArray) := eqV_of inferInstance pln_E
def fitE (p : DEnt) : Int := if ¬ goodN p.1 then 11 else if p.2 < 0 ∨ 48 ≤ p.2 then 1 else 0
theorem fitE_zero {p : DEnt} (h : fitE p = 0) : goodN p.1 ∧ 0 ≤ p.2 ∧ p.2 < 48 := by
  unfold fitE at h
  split at h
  · cases h
  · split at h
    · cases h
    · exact ⟨by simpa using ‹¬ ¬ goodN p.1›, by omega, by omega⟩
theorem fitE_ok {p : DEnt} (h : goodN p.1 ∧ 0 ≤ p.2 ∧ p.2 < 48) : fitE p = 0 := by
  unfold fitE
  rw [if_neg (by simpa using h.1), if_neg (by omega)]
def okP : Option (List UInt8) → List UInt8 → Bool
  | none, _ => true
  | some p, x => blt p x
/-- what Check answers from entry k on -/
def chk (prev : Option (List UInt8)) : List DEnt → Int
  | [] => 0
  | x :: l => if fitE x ≠ 0 then fitE x else if okP prev x.1 = false then 4 else chk (some x.1) l
def prevAt (l : List DEnt) (k : Nat) : Option (List UInt8) := if k = 0 then none else (l[k - 1]?).map (·.1)
def checkD (l : List DEnt) : Int := if 24 < l.length then 2 else chk none l
theorem chk_zero {l : List DEnt} : ∀ {prev}, chk prev l = 0 → (∀ x ∈ l, fitE x = 0) ∧ (∀ p, prev = some p → ∀ x ∈ l, blt p x.1 = true) ∧ l.Pairwise fun a b => blt a.1 b.1 = true := by
  induction l with
  | nil => exact fun _ => ⟨by simp, by simp, List.Pairwise.nil⟩
  | cons x l ih =>
    intro prev h
    unfold chk at h
    split at h
    · exact absurd h ‹_›
    · rename_i h1
      have h1 : fitE x = 0 := by simpa using h1
      split at h
      · cases h
      · rename_i h2
        obtain ⟨a1, a2, a3⟩ := ih h
        have a4 := a2 x.1 rfl
        refine ⟨fun y hy => ?_, fun p hp y hy => ?_, List.pairwise_cons.2 ⟨a4, a3⟩⟩
        · rcases List.mem_cons.1 hy with rfl | hy
          · exact h1
          · exact a1 y hy
        · subst hp
          have h3 : blt p x.1 = true := by simpa [okP] using h2
          rcases List.mem_cons.1 hy with rfl | hy
          · exact h3
          · exact blt_trans h3 (a4 y hy)
theorem chk_ok {l : List DEnt} : ∀ {prev}, (∀ x ∈ l, fitE x = 0) → (∀ p, prev = some p → ∀ x ∈ l, blt p x.1 = true) → (l.Pairwise fun a b => blt a.1 b.1 = true) → chk prev l = 0 := by
  induction l with
  | nil => exact fun _ _ _ => rfl
  | cons x l ih =>
    intro prev h1 h2 h3
    have h4 := List.pairwise_cons.1 h3
    unfold chk
    rw [if_neg (by simpa using h1 x List.mem_cons_self), if_neg]
    · exact ih (fun y hy => h1 y (List.mem_cons_of_mem _ hy)) (fun p hp y hy => by cases hp; exact h4.1 y hy) h4.2
    · cases prev with
      | none => simp [okP]
      | some p => simp [okP, h2 p rfl x List.mem_cons_self]
/-- a right directory -/
def GoodD (l : List DEnt) : Prop := l.length ≤ 24 ∧ (∀ x ∈ l, fitE x = 0) ∧ l.Pairwise fun a b => blt a.1 b.1 = true
theorem checkD_iff (l : List DEnt) : checkD l = 0 ↔ GoodD l := by
  unfold checkD GoodD
  constructor
  · intro h
    split at h
    · cases h
    · obtain ⟨a1, _, a3⟩ := chk_zero h
      exact ⟨by omega, a1, a3⟩
  · rintro ⟨h1, h2, h3⟩
    rw [if_neg (by omega)]
    exact chk_ok h2 (by simp) h3
theorem chk_step {l : List DEnt} {k : Nat} {x : DEnt} (h : l[k]? = some x) : chk (prevAt l k) (l.drop k) = if fitE x ≠ 0 then fitE x else if okP (prevAt l k) x.1 = false then 4 else chk (prevAt l (k + 1)) (l.drop (k + 1)) := by
  obtain ⟨hlt, he⟩ := List.getElem?_eq_some_iff.1 h
  have e : l.drop k = x :: l.drop (k + 1) := by rw [List.drop_eq_getElem_cons hlt, he]
  rw [e]
  have e2 : prevAt l (k + 1) = some x.1 := by unfold prevAt; rw [if_neg (by omega), Nat.add_sub_cancel, h]; rfl
  rw [e2]
  rfl
attribute [local irreducible] box own sl old bptr eptr Qt Opr Run Cod Pst Drn
set_option maxRecDepth 100000 in
set_option maxHeartbeats 8000000 in
theorem fit_any (p : DEnt) (hs : p.1.length ≤ 9223372036854775807) : Ct Try.prog 66 [.agg #[.string (str p.1), .int .i64 p.2]] [] fun v H' => v = .int .i64 (fitE p) ∧ H' = [] := by
  have G0 := good_any p.1 hs
  by_cases h1 : goodN p.1
  · have e : goodE p.1 = 0 := by unfold goodE; rw [if_pos h1]
    rw [e] at G0
    by_cases h2 : p.2 < 0
    · have e2 : fitE p = 1 := by unfold fitE; rw [if_neg (by simpa using h1), if_pos (.inl h2)]
      rw [e2]
      (refine spec_enter Try.func66 Try.ntmps66 rfl rfl fun Fr => ?_; dsimp only [List.cons_append, List.nil_append, ini, Nat.reduceAdd])
      (repeat' (first | (apply run_qg 1; (focus rfl); (focus exact wt); (focus rfl); (focus (exact qg1))) | (apply run_qg 2; (focus rfl); (focus exact wt); (focus rfl); (focus (first | exact qg2 | exact qs2))) | (apply run_qg 3; (focus rfl); (focus exact wt); (focus rfl); (focus (first | exact qg3 | exact qs3))) | (apply run_qg 4; (focus rfl); (focus exact wt); (focus rfl); (focus (first | exact qg4 | exact qs4))) | refine cod_seq ?_ | refine cod_region ?_ | refine run_nil ?_ | refine pst_then ?_ | (apply cod_cond_t; (focus rfl)) | (apply cod_cond_f; (focus rfl)) | refine cod_ret ?_ | refine cod_skip ?_ | refine pst_then_ret ?_ | (apply run_osg 8; (focus rfl); (focus exact wt); (focus rfl); (focus (exact opr_box_agg rfl rfl)); (rintro _ _ ⟨b, rfl, rfl⟩)) | (apply run_offs; (focus rfl); (focus rfl); (focus rfl)) | (apply run_osg 7; (focus rfl); (focus exact wt); (focus rfl); (focus (exact opr_call_ls (by rfl) (G0 ..) (by rfl) lpa)); (rintro _ _ ⟨rfl, rfl⟩))))
      exact pst_fin rfl (by exact resa) _ (⟨rfl, rfl⟩) (by exact hsa)
    · by_cases h3 : 48 ≤ p.2
      · have e2 : fitE p = 1 := by unfold fitE; rw [if_neg (by simpa using h1), if_pos (.inr h3)]
        rw [e2]
        (refine spec_enter Try.func66 Try.ntmps66 rfl rfl fun Fr => ?_; dsimp only [List.cons_append, List.nil_append, ini, Nat.reduceAdd])
        (repeat' (first | (apply run_qg 1; (focus rfl); (focus exact wt); (focus rfl); (focus (exact qg1))) | (apply run_qg 2; (focus rfl); (focus exact wt); (focus rfl); (focus (first | exact qg2 | exact qs2))) | (apply run_qg 3; (focus rfl); (focus exact wt); (focus rfl); (focus (first | exact qg3 | exact qs3))) | (apply run_qg 4; (focus rfl); (focus exact wt); (focus rfl); (focus (first | exact qg4 | exact qs4))) | refine cod_seq ?_ | refine cod_region ?_ | refine run_nil ?_ | refine pst_then ?_ | (apply cod_cond_t; (focus rfl)) | (apply cod_cond_f; (focus rfl)) | refine cod_ret ?_ | refine cod_skip ?_ | refine pst_then_ret ?_ | (apply run_osg 8; (focus rfl); (focus exact wt); (focus rfl); (focus (exact opr_box_agg rfl rfl)); (rintro _ _ ⟨b, rfl, rfl⟩)) | (apply run_osg 7; (focus rfl); (focus exact wt); (focus rfl); (focus (exact opr_call_ls (by rfl) (G0 ..) (by rfl) lpa)); (rintro _ _ ⟨rfl, rfl⟩))))
        exact pst_fin rfl (by exact resa) _ (⟨rfl, rfl⟩) (by exact hsa)
      · have e2 : fitE p = 0 := fitE_ok ⟨h1, by omega, by omega⟩
        rw [e2]
        (refine spec_enter Try.func66 Try.ntmps66 rfl rfl fun Fr => ?_; dsimp only [List.cons_append, List.nil_append, ini, Nat.reduceAdd])
        (repeat' (first | (apply run_qg 1; (focus rfl); (focus exact wt); (focus rfl); (focus (exact qg1))) | (apply run_qg 2; (focus rfl); (focus exact wt); (focus rfl); (focus (first | exact qg2 | exact qs2))) | (apply run_qg 3; (focus rfl); (focus exact wt); (focus rfl); (focus (first | exact qg3 | exact qs3))) | (apply run_qg 4; (focus rfl); (focus exact wt); (focus rfl); (focus (first | exact qg4 | exact qs4))) | refine cod_seq ?_ | refine cod_region ?_ | refine run_nil ?_ | refine pst_then ?_ | (apply cod_cond_f; (focus rfl)) | refine cod_ret ?_ | refine cod_skip ?_ | (apply run_osg 8; (focus rfl); (focus exact wt); (focus rfl); (focus (exact opr_box_agg rfl rfl)); (rintro _ _ ⟨b, rfl, rfl⟩)) | (apply run_osg 7; (focus rfl); (focus exact wt); (focus rfl); (focus (exact opr_call_ls (by rfl) (G0 ..) (by rfl) lpa)); (rintro _ _ ⟨rfl, rfl⟩))))
        exact pst_fin rfl (by exact resa) _ (⟨rfl, rfl⟩) (by exact hsa)
  · have e : goodE p.1 = 11 := by unfold goodE; rw [if_neg h1]
    rw [e] at G0
    have e2 : fitE p = 11 := by unfold fitE; rw [if_pos h1]
    rw [e2]
    (refine spec_enter Try.func66 Try.ntmps66 rfl rfl fun Fr => ?_; dsimp only [List.cons_append, List.nil_append, ini, Nat.reduceAdd])
    (repeat' (first | (apply run_qg 1; (focus rfl); (focus exact wt); (focus rfl); (focus (exact qg1))) | (apply run_qg 2; (focus rfl); (focus exact wt); (focus rfl); (focus (first | exact qg2 | exact qs2))) | (apply run_qg 3; (focus rfl); (focus exact wt); (focus rfl); (focus (first | exact qg3 | exact qs3))) | (apply run_qg 4; (focus rfl); (focus exact wt); (focus rfl); (focus (first | exact qg4 | exact qs4))) | refine cod_seq ?_ | refine cod_region ?_ | refine run_nil ?_ | refine pst_then ?_ | (apply cod_cond_t; (focus rfl)) | refine cod_ret ?_ | refine pst_then_ret ?_ | (apply run_osg 8; (focus rfl); (focus exact wt); (focus rfl); (focus (exact opr_box_agg rfl rfl)); (rintro _ _ ⟨b, rfl, rfl⟩)) | (apply run_osg 7; (focus rfl); (focus exact wt); (focus rfl); (focus (exact opr_call_ls (by rfl) (G0 ..) (by rfl) lpa)); (rintro _ _ ⟨rfl, rfl⟩))))
    exact pst_fin rfl (by exact resa) _ (⟨rfl, rfl⟩) (by exact hsa)
set_option maxRecDepth 100000 in
set_option maxHeartbeats 8000000 in
theorem check_any (q : Option Addr) (c : Nat) (l : List DEnt) (hn : l.length ≤ 1000000000000000000) (hs : ∀ p ∈ l, p.1.length ≤ 9223372036854775807) :
    Ct Try.prog 41 [.slice q l.length c] [sl 2 (.slice q l.length c) (l.map fE)] fun v H' => v = .int .i64 (checkD l) ∧ H' = [] := by
  by_cases h0 : 24 < l.length
  · have e : checkD l = 2 := by unfold checkD; rw [if_pos h0]
    rw [e]
    (refine spec_enter Try.func41 Try.ntmps41 rfl rfl fun Fr => ?_; dsimp only [List.cons_append, List.nil_append, ini, Nat.reduceAdd])
    (repeat' (first | (apply run_qg 1; (focus rfl); (focus exact wt); (focus rfl); (focus (exact qg1))) | (apply run_qg 4; (focus rfl); (focus exact wt); (focus rfl); (focus (first | exact qg4 | exact qs4))) | (apply run_qg 6; (focus rfl); (focus exact wt); (focus rfl); (focus (first | exact qs6 | exact qg6 | exact q_max rfl rfl rfl | exact q_sliceData rfl rfl (by omega) | exact q_sliceDataN rfl rfl | exact q_unsafeStringN rfl rfl rfl | exact q_cap_slice rfl rfl))) | refine cod_seq ?_ | refine cod_region ?_ | refine run_nil ?_ | refine pst_then ?_ | (apply cod_cond_t; (focus rfl)) | refine cod_ret ?_ | refine pst_then_ret ?_))
    exact pst_fin rfl (by exact resa) _ (⟨rfl, rfl⟩) (by exact hsa)
  · have e : checkD l = chk (prevAt l 0) (l.drop 0) := by unfold checkD; rw [if_neg h0]; rfl
    rw [e]
    obtain ⟨r, hr⟩ : ∃ r, chk (prevAt l 0) (l.drop 0) = r := ⟨_, rfl⟩
    rw [hr]
    (refine spec_enter Try.func41 Try.ntmps41 rfl rfl fun Fr => ?_; dsimp only [List.cons_append, List.nil_append, ini, Nat.reduceAdd])
    (repeat' (first | (apply run_qg 1; (focus rfl); (focus exact wt); (focus rfl); (focus (exact qg1))) | (apply run_qg 4; (focus rfl); (focus exact wt); (focus rfl); (focus (first | exact qg4 | exact qs4))) | (apply run_qg 6; (focus rfl); (focus exact wt); (focus rfl); (focus (first | exact qs6 | exact qg6 | exact q_max rfl rfl rfl | exact q_sliceData rfl rfl (by omega) | exact q_sliceDataN rfl rfl | exact q_unsafeStringN rfl rfl rfl | exact q_cap_slice rfl rfl))) | refine cod_seq ?_ | refine cod_region ?_ | refine run_nil ?_ | refine pst_then ?_ | (apply cod_cond_f; (focus rfl)) | refine cod_block ?_ | refine cod_skip ?_))
    (refine cod_loop_ro (σ := Nat) (fun k => k ≤ l.length ∧ chk (prevAt l k) (l.drop k) = r) (fun k => [(11, .int .i64 (k : Int))]) (fun k => l.length - k) (0) (by exact ⟨Nat.zero_le _, hr⟩) (by exact fsa) (fun k ⟨hk, hd⟩ => ?_); dsimp only [List.cons_append, List.nil_append])
    rcases Nat.lt_or_ge k l.length with hlt | hge
    · obtain ⟨p, hpk⟩ : ∃ p, l[k]? = some p := ⟨_, List.getElem?_eq_getElem hlt⟩
      have F0 := fit_any p (hs p (List.mem_of_getElem? hpk))
      rw [chk_step hpk] at hd
      by_cases h1 : fitE p = 0
      · rw [if_neg (by simpa using h1)] at hd
        rw [h1] at F0
        rcases Nat.eq_zero_or_pos k with h2 | h2
        · subst h2
          rw [if_neg (by unfold prevAt; rw [if_pos rfl]; simp [okP])] at hd
          (repeat' (first | (apply run_qg 1; (focus rfl); (focus exact wt); (focus rfl); (focus (exact qg1))) | (apply run_qg 2; (focus rfl); (focus exact wt); (focus rfl); (focus (first | exact qg2 | exact qs2))) | (apply run_qg 3; (focus rfl); (focus exact wt); (focus rfl); (focus (first | exact qg3 | exact qs3))) | (apply run_qg 4; (focus rfl); (focus exact wt); (focus rfl); (focus (first | exact qg4 | exact qs4))) | refine cod_seq ?_ | refine cod_region ?_ | refine run_nil ?_ | refine pst_then ?_ | (apply cod_cond_t; (focus rfl)) | (apply cod_cond_f; (focus rfl)) | refine cod_block ?_ | refine cod_skip ?_ | refine pst_block ?_ | (apply run_osg 8; (focus rfl); (focus exact wt); (focus rfl); (focus (exact opr_new rfl)); (rintro _ _ ⟨b, rfl, rfl⟩)) | (apply run_ong 9; (focus rfl); (focus exact wt); (focus (exact opr_store_box_agg rfl rfl rfl (by exact pka) rfl rfl rfl (by exact spla))); (rintro _ _ ⟨rfl, rfl⟩)) | (apply run_osg 7; (focus rfl); (focus exact wt); (focus rfl); (focus (exact opr_call_ls (by rfl) (F0 ..) (by rfl) lpa)); (rintro _ _ ⟨rfl, rfl⟩)) | (apply cod_drawn_k; (focus kernel_rfl); (focus (simp only [List.length_cons, List.length_nil, Nat.reduceAdd]; rfl))) | (apply drnK_take 1; (focus rfl); (focus rfl); (focus exact wt); (focus (decide +kernel)); (focus exact hsq); (focus rfl); (focus (exact qg1))) | (apply drnK_take 4; (focus rfl); (focus rfl); (focus exact wt); (focus (decide +kernel)); (focus exact hsq); (focus rfl); (focus (first | exact qg4 | exact qs4))) | (apply drnK_off; (focus rfl); (focus rfl); (focus rfl); (focus (decide +kernel)); (focus exact hsq); (focus rfl)) | (apply drnK_end; (focus (decide +kernel)))))
          refine pst_again (0 + 1) ?_ (FSub.of (by (try dsimp only); exact fsa)) (by (try dsimp only); exact hsa) ?_
          · exact ⟨by omega, hd⟩
          · show l.length - (0 + 1) < l.length - 0
            omega
        · obtain ⟨o, hok⟩ : ∃ o, l[k - 1]? = some o := ⟨_, List.getElem?_eq_getElem (by omega)⟩
          have e3 : prevAt l k = some o.1 := by unfold prevAt; rw [if_neg (by omega), hok]; rfl
          rw [e3] at hd
          have hk1 : (k : Int) - 1 = ((k - 1 : Nat) : Int) := by omega
          cases hb : blt o.1 p.1 with
          | true =>
            rw [show okP (some o.1) p.1 = true from hb, if_neg (by simp)] at hd
            (repeat' (first | (apply run_qg 1; (focus rfl); (focus exact wt); (focus rfl); (focus (exact qg1))) | (apply run_qg 2; (focus rfl); (focus exact wt); (focus rfl); (focus (first | exact qg2 | exact qs2))) | (apply run_qg 3; (focus rfl); (focus exact wt); (focus rfl); (focus (first | exact qg3 | exact qs3))) | (apply run_qg 4; (focus rfl); (focus exact wt); (focus rfl); (focus (first | exact qg4 | exact qs4))) | refine cod_seq ?_ | refine cod_region ?_ | refine run_nil ?_ | refine pst_then ?_ | (apply cod_cond_t; (focus rfl)) | (apply cod_cond_f; (focus rfl)) | refine cod_block ?_ | refine cod_skip ?_ | (apply run_osg 8; (focus rfl); (focus exact wt); (focus rfl); (focus (exact opr_new rfl)); (rintro _ _ ⟨b, rfl, rfl⟩)) | (apply run_ong 9; (focus rfl); (focus exact wt); (focus (exact opr_store_box_agg rfl rfl rfl (by exact pka) rfl rfl rfl (by exact spla))); (rintro _ _ ⟨rfl, rfl⟩)) | (apply run_osg 7; (focus rfl); (focus exact wt); (focus rfl); (focus (exact opr_call_ls (by rfl) (F0 ..) (by rfl) lpa)); (rintro _ _ ⟨rfl, rfl⟩)) | (apply cod_drawn_k; (focus kernel_rfl); (focus (simp only [List.length_cons, List.length_nil, Nat.reduceAdd]; rfl))) | (apply drnK_take 1; (focus rfl); (focus rfl); (focus exact wt); (focus (decide +kernel)); (focus exact hsq); (focus rfl); (focus (exact qg1))) | (apply drnK_take 2; (focus rfl); (focus rfl); (focus exact wt); (focus (decide +kernel)); (focus exact hsq); (focus rfl); (focus (first | exact qg2 | exact qs2))) | (apply drnK_take 3; (focus rfl); (focus rfl); (focus exact wt); (focus (decide +kernel)); (focus exact hsq); (focus rfl); (focus (first | exact qg3 | exact qs3))) | (apply drnK_take 4; (focus rfl); (focus rfl); (focus exact wt); (focus (decide +kernel)); (focus exact hsq); (focus rfl); (focus (first | exact qg4 | exact qs4))) | (apply drnK_done; (focus (decide +kernel))) | (apply drnK_skip; (focus rfl)) | (apply drnK_wrap; (focus rfl))))
            (refine drnK_at 6 ?_; refine drnK_take _ rfl rfl wt (by decide +kernel) hsq rfl (q_index_sl (i := k - 1) rfl rfl rfl pka hk1 (by simp only [List.length_map]; omega)) ?_)
            (repeat' (first | (apply drnK_take 2; (focus rfl); (focus rfl); (focus exact wt); (focus (decide +kernel)); (focus exact hsq); (focus rfl); (focus (first | exact qg2 | exact qs2))) | (apply drnK_take 3; (focus rfl); (focus rfl); (focus exact wt); (focus (decide +kernel)); (focus exact hsq); (focus rfl); (focus (first | exact qg3 | exact qs3))) | (apply drnK_done; (focus (decide +kernel))) | (apply drnK_skip; (focus rfl))))
            (refine drnK_at 11 ?_; refine drnK_take _ rfl rfl wt (by decide +kernel) hsq rfl (q_sgeq rfl rfl rfl (r := false) (by rw [hb]; rfl)) ?_)
            (repeat' (first | (apply run_qg 1; (focus rfl); (focus exact wt); (focus rfl); (focus (exact qg1))) | (apply run_qg 4; (focus rfl); (focus exact wt); (focus rfl); (focus (first | exact qg4 | exact qs4))) | refine cod_region ?_ | refine run_nil ?_ | refine pst_then ?_ | (apply cod_cond_f; (focus rfl)) | refine cod_skip ?_ | refine pst_block ?_ | (apply drnK_take 1; (focus rfl); (focus rfl); (focus exact wt); (focus (decide +kernel)); (focus exact hsq); (focus rfl); (focus (exact qg1))) | (apply drnK_end; (focus (decide +kernel)))))
            refine pst_again (k + 1) ?_ (FSub.of (by (try dsimp only); exact fsa)) (by (try dsimp only); exact hsa) ?_
            · exact ⟨by omega, hd⟩
            · show l.length - (k + 1) < l.length - k
              omega
          | false =>
            rw [show okP (some o.1) p.1 = false from hb, if_pos rfl] at hd
            subst hd
            (repeat' (first | (apply run_qg 1; (focus rfl); (focus exact wt); (focus rfl); (focus (exact qg1))) | (apply run_qg 2; (focus rfl); (focus exact wt); (focus rfl); (focus (first | exact qg2 | exact qs2))) | (apply run_qg 3; (focus rfl); (focus exact wt); (focus rfl); (focus (first | exact qg3 | exact qs3))) | (apply run_qg 4; (focus rfl); (focus exact wt); (focus rfl); (focus (first | exact qg4 | exact qs4))) | refine cod_seq ?_ | refine cod_region ?_ | refine run_nil ?_ | refine pst_then ?_ | (apply cod_cond_t; (focus rfl)) | (apply cod_cond_f; (focus rfl)) | refine cod_block ?_ | refine cod_skip ?_ | (apply run_osg 8; (focus rfl); (focus exact wt); (focus rfl); (focus (exact opr_new rfl)); (rintro _ _ ⟨b, rfl, rfl⟩)) | (apply run_ong 9; (focus rfl); (focus exact wt); (focus (exact opr_store_box_agg rfl rfl rfl (by exact pka) rfl rfl rfl (by exact spla))); (rintro _ _ ⟨rfl, rfl⟩)) | (apply run_osg 7; (focus rfl); (focus exact wt); (focus rfl); (focus (exact opr_call_ls (by rfl) (F0 ..) (by rfl) lpa)); (rintro _ _ ⟨rfl, rfl⟩)) | (apply cod_drawn_k; (focus kernel_rfl); (focus (simp only [List.length_cons, List.length_nil, Nat.reduceAdd]; rfl))) | (apply drnK_take 1; (focus rfl); (focus rfl); (focus exact wt); (focus (decide +kernel)); (focus exact hsq); (focus rfl); (focus (exact qg1))) | (apply drnK_take 2; (focus rfl); (focus rfl); (focus exact wt); (focus (decide +kernel)); (focus exact hsq); (focus rfl); (focus (first | exact qg2 | exact qs2))) | (apply drnK_take 3; (focus rfl); (focus rfl); (focus exact wt); (focus (decide +kernel)); (focus exact hsq); (focus rfl); (focus (first | exact qg3 | exact qs3))) | (apply drnK_take 4; (focus rfl); (focus rfl); (focus exact wt); (focus (decide +kernel)); (focus exact hsq); (focus rfl); (focus (first | exact qg4 | exact qs4))) | (apply drnK_done; (focus (decide +kernel))) | (apply drnK_skip; (focus rfl)) | (apply drnK_wrap; (focus rfl))))
            (refine drnK_at 6 ?_; refine drnK_take _ rfl rfl wt (by decide +kernel) hsq rfl (q_index_sl (i := k - 1) rfl rfl rfl pka hk1 (by simp only [List.length_map]; omega)) ?_)
            (repeat' (first | (apply drnK_take 2; (focus rfl); (focus rfl); (focus exact wt); (focus (decide +kernel)); (focus exact hsq); (focus rfl); (focus (first | exact qg2 | exact qs2))) | (apply drnK_take 3; (focus rfl); (focus rfl); (focus exact wt); (focus (decide +kernel)); (focus exact hsq); (focus rfl); (focus (first | exact qg3 | exact qs3))) | (apply drnK_done; (focus (decide +kernel))) | (apply drnK_skip; (focus rfl))))
            (refine drnK_at 11 ?_; refine drnK_take _ rfl rfl wt (by decide +kernel) hsq rfl (q_sgeq rfl rfl rfl (r := true) (by rw [hb]; rfl)) ?_)
            (repeat' (first | (apply run_qg 1; (focus rfl); (focus exact wt); (focus rfl); (focus (exact qg1))) | refine cod_seq ?_ | refine cod_region ?_ | refine run_nil ?_ | refine pst_then ?_ | (apply cod_cond_t; (focus rfl)) | refine cod_ret ?_ | refine pst_block_ret ?_ | refine pst_then_ret ?_ | (apply drnK_take 1; (focus rfl); (focus rfl); (focus exact wt); (focus (decide +kernel)); (focus exact hsq); (focus rfl); (focus (exact qg1))) | (apply drnK_end; (focus (decide +kernel)))))
            exact pst_fin rfl (by exact resa) _ (⟨rfl, rfl⟩) (by exact hsa)
      · rw [if_pos (by simpa using h1)] at hd
        subst hd
        generalize fitE p = e at *
        (repeat' (first | (apply run_qg 1; (focus rfl); (focus exact wt); (focus rfl); (focus (exact qg1))) | (apply run_qg 2; (focus rfl); (focus exact wt); (focus rfl); (focus (first | exact qg2 | exact qs2))) | (apply run_qg 3; (focus rfl); (focus exact wt); (focus rfl); (focus (first | exact qg3 | exact qs3))) | (apply run_qg 4; (focus rfl); (focus exact wt); (focus rfl); (focus (first | exact qg4 | exact qs4))) | refine cod_seq ?_ | refine cod_region ?_ | refine run_nil ?_ | refine pst_then ?_ | (apply cod_cond_t; (focus rfl)) | refine cod_block ?_ | refine cod_ret ?_ | refine cod_skip ?_ | refine pst_block_ret ?_ | refine pst_then_ret ?_ | (apply run_osg 8; (focus rfl); (focus exact wt); (focus rfl); (focus (exact opr_new rfl)); (rintro _ _ ⟨b, rfl, rfl⟩)) | (apply run_ong 9; (focus rfl); (focus exact wt); (focus (exact opr_store_box_agg rfl rfl rfl (by exact pka) rfl rfl rfl (by exact spla))); (rintro _ _ ⟨rfl, rfl⟩)) | (apply run_osg 7; (focus rfl); (focus exact wt); (focus rfl); (focus (exact opr_call_ls (by rfl) (F0 ..) (by rfl) lpa)); (rintro _ _ ⟨rfl, rfl⟩))))
        exact pst_fin rfl (by exact resa) _ (⟨rfl, rfl⟩) (by exact hsa)
    · rw [List.drop_eq_nil_of_le hge] at hd
      have : r = 0 := hd.symm
      subst this
      (repeat' (first | (apply run_qg 1; (focus rfl); (focus exact wt); (focus rfl); (focus (exact qg1))) | (apply run_qg 4; (focus rfl); (focus exact wt); (focus rfl); (focus (first | exact qg4 | exact qs4))) | refine cod_seq ?_ | refine cod_region ?_ | refine run_nil ?_ | refine pst_then ?_ | (apply cod_cond_f; (focus rfl)) | refine cod_exit ?_ | refine cod_ret ?_ | refine pst_block_here ?_ | refine pst_then_exit ?_))
      exact pst_fin rfl (by exact resa) _ (⟨rfl, rfl⟩) (by exact hsa)
end Go.Proofs.Ytknclflgghnojaa.dir
