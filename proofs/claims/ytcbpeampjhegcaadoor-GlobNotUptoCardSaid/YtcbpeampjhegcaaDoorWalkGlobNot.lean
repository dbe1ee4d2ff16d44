/-
  GlobNot: the walk.
-/
import Derived.Test.YtcbpeampjhegcaaDoorGlobPcs
namespace Go.Proofs.YtcbpeampjhegcaaDoor.lawGlobNot
open Go.RowKit kit sl glob
set_option linter.unusedVariables false
theorem sigs_low {c : UInt8} {x : List UInt8} (h : c.toNat < 128) : sigs (c :: x) = c.toNat :: sigs x := sig_eq (sig_low h (sig_sigs x))
theorem sigs_first : sigs [91, 97, 45, 99, 45, 93] = [91, 97, 45, 99, 45, 93] := by
  rw [sigs_low (by decide), sigs_low (by decide), sigs_low (by decide), sigs_low (by decide), sigs_low (by decide), sigs_low (by decide), sigs_nil]
  rfl
theorem parts_first : partsS [91, 97, 45, 99, 45, 93] = some [(false, false, [(97, 99), (45, 45)])] := by decide +kernel
theorem mv_first : matchV [91, 97, 45, 99, 45, 93] [45] = (true, 0) := by
  obtain ⟨b, h1, h2⟩ := mv_ok (p := [91, 97, 45, 99, 45, 93]) (s := [45]) (by decide) (by rw [sigs_first]; exact parts_first)
  rw [h1, h2.2]
  rw [sigs_low (by decide), sigs_nil]
  exact .one rfl (by decide +kernel) .nil
/-- what the class is made of -/
def fixC (c : List UInt8) : List UInt8 := if c.head? = some 33 then [92] ++ c else c
theorem fixC_head (c : List UInt8) : (fixC c).head? ≠ some 33 := by
  unfold fixC
  split
  · simp
  · assumption
theorem sigs_head {s : List UInt8} (h : (sigs s).head? = some 33) : s.head? = some 33 := by
  have hs := sig_sigs s
  generalize sigs s = cs at hs h
  cases hs with
  | nil => cases h
  | @code a r v cs hv ha _ =>
    simp only [List.head?_cons, Option.some.injEq] at h
    subst h
    rw [enc_low (by decide)] at ha
    cases a with
    | nil => cases ha
    | cons y a =>
      have : y.toNat = 33 := (List.cons.inj ha).1
      have hy : y = 33 := UInt8.toNat_inj.1 (by rw [this]; rfl)
      rw [hy]
      rfl
  | @stray b t cs hn _ =>
    simp only [List.head?_cons, Option.some.injEq] at h
    omega
theorem parts_empty {l : List Nat} (h : partsS l = some []) : l = [] := by
  by_cases hl : l = []
  · exact hl
  · cases hx : nextS l with
    | none => rw [parts_none hl hx] at h; cases h
    | some w =>
      obtain ⟨c, b, r⟩ := w
      cases hp : pieceS c b r with
      | none => rw [parts_no hl hx hp] at h; cases h
      | some w =>
        obtain ⟨p, r'⟩ := w
        rw [parts_step hl hx hp] at h
        cases hq : partsS r' with
        | none => rw [hq] at h; cases h
        | some ps => rw [hq] at h; cases h
theorem parts_one {l : List Nat} {ps : List Pt} (hh : l.head? ≠ some 33) (h : partsS (91 :: l) = some ps) (h1 : ps.length = 1) : ∃ sp, ps = [(false, false, sp)] ∧ partsS (91 :: 33 :: l) = some [(false, true, sp)] := by
  have hx : nextS (91 :: l) = some (91, false, l) := rfl
  have hx2 : nextS (91 :: 33 :: l) = some (91, false, 33 :: l) := rfl
  cases hc : classS l with
  | none =>
    rw [parts_no (by simp) hx (by unfold pieceS; rw [if_neg (by decide), if_neg (by decide), if_neg (by decide), if_pos rfl]; exact hc)] at h
    cases h
  | some w =>
    obtain ⟨p, r⟩ := w
    rw [parts_step (by simp) hx (by unfold pieceS; rw [if_neg (by decide), if_neg (by decide), if_neg (by decide), if_pos rfl]; exact hc)] at h
    cases hr : partsS r with
    | none => rw [hr] at h; cases h
    | some qs =>
      rw [hr] at h
      have h9 : p :: qs = ps := Option.some.inj h
      subst h9
      have hq : qs = [] := List.length_eq_zero_iff.1 (by simpa using h1)
      subst hq
      have hr0 := parts_empty hr
      subst hr0
      unfold classS at hc
      rw [if_neg hh] at hc
      cases hf : classF (l.length + 1) l [] with
      | none => rw [hf] at hc; cases hc
      | some y =>
        rw [hf] at hc
        obtain ⟨sp, r2⟩ := y
        have h8 : (((false, false, sp) : Pt), r2) = (p, []) := Option.some.inj hc
        cases h8
        refine ⟨sp, rfl, ?_⟩
        have hc2 : classS (33 :: l) = some ((false, true, sp), []) := by
          unfold classS
          rw [if_pos (show (33 :: l).head? = some 33 from rfl)]
          show (classF (l.length + 1) l []).map _ = _
          rw [hf]
          rfl
        rw [parts_step (by simp) hx2 (by unfold pieceS; rw [if_neg (by decide), if_neg (by decide), if_neg (by decide), if_pos rfl]; exact hc2)]
        rw [hr]
        rfl
theorem m_single {p : Pt} {x : Nat} (h : p.1 = false) : M [p] [x] ↔ takes p x = true := by
  rw [m_one h]
  exact ⟨fun h => h.1, fun h => ⟨h, .nil⟩⟩
theorem takes_not (sp : List (Nat × Nat)) (x : Nat) : takes (false, true, sp) x = !takes (false, false, sp) x := by
  unfold takes
  dsimp only
  split <;> rfl
theorem sigs_p1 (c : List UInt8) : sigs ([91] ++ c ++ [93]) = 91 :: sigs (c ++ [93]) := by
  rw [List.append_assoc, List.singleton_append, sigs_low (by decide)]
  rfl
theorem sigs_p2 (c : List UInt8) : sigs ([91, 33] ++ c ++ [93]) = 91 :: 33 :: sigs (c ++ [93]) := by
  rw [List.append_assoc, List.cons_append, List.cons_append, List.nil_append, sigs_low (by decide), sigs_low (by decide)]
  rfl
/-- the two answers -/
theorem two_say {c s : List UInt8} {ps : List Pt} {x : Nat} (hc : c.head? ≠ some 33) (hcl : c.length ≤ 37) (hs : s.length ≤ 40) (hx : sigs s = [x]) (h : partsS (sigs ([91] ++ c ++ [93])) = some ps) (h1 : ps.length = 1) :
    ∃ a, matchV ([91] ++ c ++ [93]) s = (a, 0) ∧ matchV ([91, 33] ++ c ++ [93]) s = (!a, 0) := by
  have hh : (sigs (c ++ [93])).head? ≠ some 33 := fun e => by
    have := sigs_head e
    cases c with
    | nil => exact absurd this (by decide)
    | cons y c => exact hc this
  have hp := h
  rw [sigs_p1] at h
  obtain ⟨sp, rfl, h2⟩ := parts_one hh h h1
  rw [← sigs_p2] at h2
  obtain ⟨a, ha, ha2⟩ := mv_ok (p := [91] ++ c ++ [93]) (s := s) (by simp only [List.length_append, List.length_cons, List.length_nil]; omega) hp
  obtain ⟨b, hb, hb2⟩ := mv_ok (p := [91, 33] ++ c ++ [93]) (s := s) (by simp only [List.length_append, List.length_cons, List.length_nil]; omega) h2
  rw [hx, m_single rfl] at ha2 hb2
  rw [takes_not] at hb2
  refine ⟨a, ha, ?_⟩
  rw [hb]
  have : b = !a := by
    cases hT : takes (false, false, sp) x with
    | true =>
      rw [hT] at ha2 hb2
      rw [ha2.2 rfl]
      cases b with
      | false => rfl
      | true => exact absurd (hb2.1 rfl) (by decide)
    | false =>
      rw [hT] at ha2 hb2
      rw [hb2.2 rfl]
      cases a with
      | false => rfl
      | true => exact absurd (ha2.1 rfl) (by decide)
  rw [this]
attribute [local irreducible] box own sl old bptr eptr Qt Opr Run Cod Pst Drn
attribute [local irreducible] matchV sigs partsS cmpB okP fixC atsN
set_option maxRecDepth 100000 in
set_option maxHeartbeats 8000000 in
theorem hp_any (c : List UInt8) (hc : c.length ≤ 9000000) : Ct Tryd.prog 8 [.string (str c), .string (str [33])] [] fun v H' => v = .bool (decide (c.head? = some 33)) ∧ H' = [] := by
  have C0 : Ct Tryd.prog 15 [.string (str c), .string (str [33])] [] fun v H' => v = .bool (decide (c.head? = some 33)) ∧ H' = [] := by
    cases c with
    | nil =>
      have h0 : ([] : List UInt8).length = 0 := rfl
      have h1 : ([33] : List UInt8).length = 1 := rfl
      (refine spec_enter Tryd.func15 Tryd.ntmps15 rfl rfl fun Fr => ?_; dsimp only [List.cons_append, List.nil_append, ini, Nat.reduceAdd])
      (repeat' (first | (apply run_qg 1; (focus rfl); (focus exact wt); (focus rfl); (focus (exact qg1))) | (apply run_qg 4; (focus rfl); (focus exact wt); (focus rfl); (focus (first | exact qg4 | exact qs4))) | (apply run_qg 6; (focus rfl); (focus exact wt); (focus rfl); (focus (first | exact qs6 | exact qg6 | exact q_max rfl rfl rfl | exact q_sliceData rfl rfl (by omega) | exact q_sliceDataN rfl rfl | exact q_unsafeStringN rfl rfl rfl | exact q_cap_slice rfl rfl))) | refine cod_seq ?_ | refine cod_region ?_ | refine run_nil ?_ | refine pst_then ?_ | refine cod_ret ?_ | (apply run_offs; (focus rfl); (focus rfl); (focus rfl))))
      exact pst_fin rfl (by exact resa) _ (⟨rfl, rfl⟩) (by exact hsa)
    | cons y r =>
      have h0 : (y :: r).length = r.length + 1 := rfl
      have h1 : ([33] : List UInt8).length = 1 := rfl
      have ht : (y :: r).take 1 = [y] := rfl
      have e : decide ((y :: r).head? = some 33) = ([y] == [33]) := by
        rw [Bool.eq_iff_iff, decide_eq_true_iff, beq_iff_eq]
        simp
      rw [e]
      generalize hb : ([y] == [33]) = b
      generalize hct : y :: r = ct at *
      (refine spec_enter Tryd.func15 Tryd.ntmps15 rfl rfl fun Fr => ?_; dsimp only [List.cons_append, List.nil_append, ini, Nat.reduceAdd])
      (repeat' (first | (apply run_qg 1; (focus rfl); (focus exact wt); (focus rfl); (focus (exact qg1))) | (apply run_qg 4; (focus rfl); (focus exact wt); (focus rfl); (focus (first | exact qg4 | exact qs4))) | (apply run_qg 6; (focus rfl); (focus exact wt); (focus rfl); (focus (first | exact qs6 | exact qg6 | exact q_max rfl rfl rfl | exact q_sliceData rfl rfl (by omega) | exact q_sliceDataN rfl rfl | exact q_unsafeStringN rfl rfl rfl | exact q_cap_slice rfl rfl))) | (apply run_qg 12; (focus rfl); (focus exact wt); (focus rfl); (focus (first | exact qs12 | exact q_cutp rfl rfl rfl rfl (by omega) (by omega) | exact q_slice_cap rfl rfl rfl rfl (by omega)))) | refine cod_seq ?_ | refine cod_region ?_ | refine run_nil ?_ | refine pst_then ?_ | refine cod_ret ?_))
      exact pst_fin rfl (by exact resa) _ (⟨rfl, rfl⟩) (by exact hsa)
  (refine spec_enter Tryd.func8 Tryd.ntmps8 rfl rfl fun Fr => ?_; dsimp only [List.cons_append, List.nil_append, ini, Nat.reduceAdd])
  (repeat' (first | (apply run_qg 1; (focus rfl); (focus exact wt); (focus rfl); (focus (exact qg1))) | refine cod_seq ?_ | refine cod_region ?_ | refine run_nil ?_ | refine pst_then ?_ | refine cod_ret ?_ | (apply run_osg 7; (focus rfl); (focus exact wt); (focus rfl); (focus (exact opr_call_ls (by rfl) (C0 ..) (by rfl) lpa)); (rintro _ _ ⟨rfl, rfl⟩))))
  exact pst_fin rfl (by exact resa) _ (⟨rfl, rfl⟩) (by exact hsa)
theorem fix_len (c : List UInt8) : (fixC c).length ≤ c.length + 1 := by
  unfold fixC
  split
  · rw [List.length_append, List.length_singleton]; omega
  · omega
set_option maxRecDepth 100000 in
set_option maxHeartbeats 8000000 in
theorem law_any {W : World} (hT : TabsIn W) (c s : List UInt8) (hc : c.length ≤ 1048576) (hs : s.length ≤ 1048576) :
    Ct Tryd.prog 4 [.string (str c), .string (str s)] [old W] fun v H' => v = .bool true ∧ H' = [] := by
  have C0 := match_v hT [91, 97, 45, 99, 45, 93] [45] (by decide) (by decide)
  rw [mv_first] at C0
  have HP := hp_any c (by omega)
  have hfx : (c.head? = some 33 ∧ fixC c = [92] ++ c) ∨ (c.head? ≠ some 33 ∧ fixC c = c) := by
    unfold fixC
    by_cases h : c.head? = some 33
    · rw [if_pos h]; exact .inl ⟨h, rfl⟩
    · rw [if_neg h]; exact .inr ⟨h, rfl⟩
  have hhd := fixC_head c
  have hfl := fix_len c
  obtain ⟨d, hd⟩ : ∃ d, fixC c = d := ⟨_, rfl⟩
  rw [hd] at hfx hhd hfl
  have hl1 : ([91] ++ d ++ [93]).length = d.length + 2 := by simp only [List.length_append, List.length_cons, List.length_nil]; omega
  have hl2 : ([91, 33] ++ d ++ [93]).length = d.length + 3 := by simp only [List.length_append, List.length_cons, List.length_nil]; omega
  have S0 := signs_doc s (by omega)
  unfold SgR at S0
  have C1 := match_v hT ([91] ++ d ++ [93]) s (by omega) (by omega)
  have C2 := match_v hT ([91, 33] ++ d ++ [93]) s (by omega) (by omega)
  have S1 := signs_doc ([91] ++ d ++ [93]) (by omega)
  unfold SgR at S1
  have hsb := (sig_bd (sig_sigs ([91] ++ d ++ [93]))).1
  have P1 := fun (h : d.length ≤ 37) q c => pieces_any _ (sigs ([91] ++ d ++ [93])) (Nat.le_refl _) (by omega) q c
  unfold PcsR at P1
  have SAY : d.length ≤ 37 → s.length ≤ 40 → (sigs s).length = 1 → (matchV ([91] ++ d ++ [93]) s).2 = 0 → ∀ ok n, okP (sigs ([91] ++ d ++ [93])) ok n → ok = true → n = 1 → ∃ a, matchV ([91] ++ d ++ [93]) s = (a, 0) ∧ matchV ([91, 33] ++ d ++ [93]) s = (!a, 0) := by
    intro g1 g2 g3 g4 ok n g5 g6 g7
    obtain ⟨x, hx⟩ : ∃ x, sigs s = [x] := by
      match h : sigs s, g3 with
      | [x], _ => exact ⟨x, rfl⟩
    cases hps : partsS (sigs ([91] ++ d ++ [93])) with
    | none =>
      unfold okP at g5
      rw [hps] at g5
      rw [g6] at g5
      exact absurd (show true = false from g5.2) (by decide)
    | some ps =>
      unfold okP at g5
      rw [hps] at g5
      exact two_say hhd g1 g2 hx hps (by rw [← g5.2.2, g7])
  clear hd hhd
  generalize hm1 : matchV ([91] ++ d ++ [93]) s = m1 at *
  generalize hm2 : matchV ([91, 33] ++ d ++ [93]) s = m2 at *
  obtain ⟨a, e⟩ := m1
  obtain ⟨b, f⟩ := m2
  generalize sigs s = S at *
  generalize sigs ([91] ++ d ++ [93]) = L at *
  clear hm1 hm2
  dsimp only at C1 C2 SAY
  (refine spec_enter Tryd.func4 Tryd.ntmps4 rfl rfl fun Fr => ?_; dsimp only [List.cons_append, List.nil_append, ini, Nat.reduceAdd])
  (repeat' (first | (apply run_qg 1; (focus rfl); (focus exact wt); (focus rfl); (focus (exact qg1))) | (apply run_qg 4; (focus rfl); (focus exact wt); (focus rfl); (focus (first | exact qg4 | exact qs4))) | (apply cod_seq_nr 4; (focus rfl)) | refine cod_region ?_ | refine run_nil ?_ | refine pst_then ?_ | (apply cod_cond_f; (focus rfl)) | refine cod_skip ?_ | (apply run_osg 7; (focus rfl); (focus exact wt); (focus rfl); (focus (exact opr_call_ls (by rfl) (C0 ..) (by rfl) lpa)); (rintro _ _ ⟨rfl, rfl⟩))))
  refine cod_cut_drop 0 (σ := Unit) (fun _ => True) (fun _ => [(0, .string (str d))]) (fun _ => []) ?_ ?_ <;> dsimp only [List.drop]
  · clear S0 S1 P1 SAY C1 C2
    rcases hfx with ⟨h1, h2⟩ | ⟨h1, h2⟩
    · rw [decide_eq_true h1] at HP
      subst h2
      (repeat' (first | (apply run_qg 1; (focus rfl); (focus exact wt); (focus rfl); (focus (exact qg1))) | (apply run_qg 4; (focus rfl); (focus exact wt); (focus rfl); (focus (first | exact qg4 | exact qs4))) | refine cod_seq ?_ | refine cod_region ?_ | refine run_nil ?_ | refine pst_then ?_ | (apply cod_cond_t; (focus rfl)) | (apply run_osg 7; (focus rfl); (focus exact wt); (focus rfl); (focus (exact opr_call_ls (by rfl) (HP ..) (by rfl) lpa)); (rintro _ _ ⟨rfl, rfl⟩))))
      exact pst_cut (()) (by trivial) (FSub.of fsa) hsa
    · rw [decide_eq_false h1] at HP
      subst h2
      (repeat' (first | (apply run_qg 1; (focus rfl); (focus exact wt); (focus rfl); (focus (exact qg1))) | refine cod_seq ?_ | refine cod_region ?_ | refine run_nil ?_ | refine pst_then ?_ | (apply cod_cond_f; (focus rfl)) | refine cod_skip ?_ | (apply run_osg 7; (focus rfl); (focus exact wt); (focus rfl); (focus (exact opr_call_ls (by rfl) (HP ..) (by rfl) lpa)); (rintro _ _ ⟨rfl, rfl⟩))))
      exact pst_cut (()) (by trivial) (FSub.of fsa) hsa
  rintro _ _
  dsimp only [List.cons_append, List.nil_append]
  clear hfx HP C0
  (repeat' (first | (apply run_qg 1; (focus rfl); (focus exact wt); (focus rfl); (focus (exact qg1))) | refine cod_seq ?_ | refine cod_region ?_ | refine pst_then ?_))
  (refine run_os wt rfl (opr_call_l rfl (S0) rfl (by exact lpa)) ?_; rintro _ _ ⟨_, ⟨q1, c1, q2, c2, rfl, rfl⟩, rfl⟩; dsimp only [List.cons_append, List.nil_append])
  clear S0
  (repeat' (first | (apply run_qg 1; (focus rfl); (focus exact wt); (focus rfl); (focus (exact qg1))) | (apply run_qg 4; (focus rfl); (focus exact wt); (focus rfl); (focus (first | exact qg4 | exact qs4))) | (apply cod_seq_nr 9; (focus rfl)) | refine cod_region ?_ | refine run_nil ?_ | refine pst_then ?_ | (apply run_osg 7; (focus rfl); (focus exact wt); (focus rfl); (focus (exact opr_call_ls (by rfl) (C1 ..) (by rfl) lpa)); (rintro _ _ ⟨rfl, rfl⟩)) | (apply run_osg 7; (focus rfl); (focus exact wt); (focus rfl); (focus (exact opr_call_ls (by rfl) (C2 ..) (by rfl) lpa)); (rintro _ _ ⟨rfl, rfl⟩))))
  by_cases h1 : S.length = 1
  · by_cases h2 : s.length ≤ 40
    · have h2' : ¬ 40 < s.length := by omega
      by_cases h3 : d.length ≤ 37
      · have h3' : ¬ 37 < d.length := by omega
        by_cases h4 : e = 0
        · subst h4
          have SAY2 := SAY h3 h2 h1 rfl
          clear SAY C1 C2
          (repeat' (first | (apply run_qg 1; (focus rfl); (focus exact wt); (focus rfl); (focus (exact qg1))) | (apply run_qg 4; (focus rfl); (focus exact wt); (focus rfl); (focus (first | exact qg4 | exact qs4))) | (apply run_qg 6; (focus rfl); (focus exact wt); (focus rfl); (focus (first | exact qs6 | exact qg6 | exact q_max rfl rfl rfl | exact q_sliceData rfl rfl (by omega) | exact q_sliceDataN rfl rfl | exact q_unsafeStringN rfl rfl rfl | exact q_cap_slice rfl rfl))) | refine cod_seq ?_ | refine cod_region ?_ | refine run_nil ?_ | refine pst_then ?_ | (apply cod_cond_f; (focus rfl)) | refine cod_skip ?_))
          (refine run_os wt rfl (opr_call_l rfl (S1) rfl (by exact lpa)) ?_; rintro _ _ ⟨_, ⟨q3, c3, q4, c4, rfl, rfl⟩, rfl⟩; dsimp only [List.cons_append, List.nil_append])
          (repeat' (first | (apply run_qg 1; (focus rfl); (focus exact wt); (focus rfl); (focus (exact qg1))) | refine cod_seq ?_ | refine cod_region ?_ | refine run_nil ?_ | refine pst_then ?_))
          (refine run_os wt rfl (opr_call_l rfl (P1 h3 q3 c3) rfl (by exact lpa)) ?_; rintro _ _ ⟨_, ⟨ok, P, q5, c5, hk, rfl, rfl⟩, rfl⟩; dsimp only [List.cons_append, List.nil_append])
          cases ok with
          | false =>
            clear SAY2 hk
            (repeat' (first | (apply run_qg 1; (focus rfl); (focus exact wt); (focus rfl); (focus (exact qg1))) | (apply run_qg 4; (focus rfl); (focus exact wt); (focus rfl); (focus (first | exact qg4 | exact qs4))) | refine cod_seq ?_ | refine cod_region ?_ | refine run_nil ?_ | refine pst_then ?_ | (apply cod_cond_t; (focus rfl)) | refine cod_ret ?_ | refine pst_then_ret ?_ | (apply run_offs; (focus rfl); (focus rfl); (focus rfl))))
            exact pst_fin rfl (by exact resa) _ (⟨rfl, rfl⟩) (by exact hsa)
          | true =>
            by_cases h5 : P.length = 1
            · obtain ⟨a', h6, h7⟩ := SAY2 true P.length hk rfl h5
              cases h6
              cases h7
              have hne : (a != !a) = true := by cases a <;> rfl
              clear SAY2 hk
              (repeat' (first | (apply run_qg 1; (focus rfl); (focus exact wt); (focus rfl); (focus (exact qg1))) | (apply run_qg 4; (focus rfl); (focus exact wt); (focus rfl); (focus (first | exact qg4 | exact qs4))) | (apply run_qg 6; (focus rfl); (focus exact wt); (focus rfl); (focus (first | exact qs6 | exact qg6 | exact q_max rfl rfl rfl | exact q_sliceData rfl rfl (by omega) | exact q_sliceDataN rfl rfl | exact q_unsafeStringN rfl rfl rfl | exact q_cap_slice rfl rfl))) | refine cod_seq ?_ | refine cod_region ?_ | refine run_nil ?_ | refine pst_then ?_ | (apply cod_cond_f; (focus rfl)) | refine cod_ret ?_ | refine cod_skip ?_))
              exact pst_fin rfl (by exact resa) _ (⟨rfl, rfl⟩) (by exact hsa)
            · clear SAY2 hk
              (repeat' (first | (apply run_qg 1; (focus rfl); (focus exact wt); (focus rfl); (focus (exact qg1))) | (apply run_qg 4; (focus rfl); (focus exact wt); (focus rfl); (focus (first | exact qg4 | exact qs4))) | (apply run_qg 6; (focus rfl); (focus exact wt); (focus rfl); (focus (first | exact qs6 | exact qg6 | exact q_max rfl rfl rfl | exact q_sliceData rfl rfl (by omega) | exact q_sliceDataN rfl rfl | exact q_unsafeStringN rfl rfl rfl | exact q_cap_slice rfl rfl))) | refine cod_seq ?_ | refine cod_region ?_ | refine run_nil ?_ | refine pst_then ?_ | (apply cod_cond_t; (focus rfl)) | refine cod_ret ?_ | refine pst_then_ret ?_))
              exact pst_fin rfl (by exact resa) _ (⟨rfl, rfl⟩) (by exact hsa)
        · clear SAY S1 P1
          (repeat' (first | (apply run_qg 1; (focus rfl); (focus exact wt); (focus rfl); (focus (exact qg1))) | (apply run_qg 4; (focus rfl); (focus exact wt); (focus rfl); (focus (first | exact qg4 | exact qs4))) | (apply run_qg 6; (focus rfl); (focus exact wt); (focus rfl); (focus (first | exact qs6 | exact qg6 | exact q_max rfl rfl rfl | exact q_sliceData rfl rfl (by omega) | exact q_sliceDataN rfl rfl | exact q_unsafeStringN rfl rfl rfl | exact q_cap_slice rfl rfl))) | refine cod_seq ?_ | refine cod_region ?_ | refine run_nil ?_ | refine pst_then ?_ | (apply cod_cond_t; (focus rfl)) | refine cod_ret ?_ | refine pst_then_ret ?_))
          exact pst_fin rfl (by exact resa) _ (⟨rfl, rfl⟩) (by exact hsa)
      · have h3' : 37 < d.length := by omega
        clear SAY S1 P1
        (repeat' (first | (apply run_qg 1; (focus rfl); (focus exact wt); (focus rfl); (focus (exact qg1))) | (apply run_qg 4; (focus rfl); (focus exact wt); (focus rfl); (focus (first | exact qg4 | exact qs4))) | (apply run_qg 6; (focus rfl); (focus exact wt); (focus rfl); (focus (first | exact qs6 | exact qg6 | exact q_max rfl rfl rfl | exact q_sliceData rfl rfl (by omega) | exact q_sliceDataN rfl rfl | exact q_unsafeStringN rfl rfl rfl | exact q_cap_slice rfl rfl))) | refine cod_seq ?_ | refine cod_region ?_ | refine run_nil ?_ | refine pst_then ?_ | (apply cod_cond_t; (focus rfl)) | refine cod_ret ?_ | refine pst_then_ret ?_ | (apply run_offs; (focus rfl); (focus rfl); (focus rfl))))
        exact pst_fin rfl (by exact resa) _ (⟨rfl, rfl⟩) (by exact hsa)
    · have h2' : 40 < s.length := by omega
      clear SAY S1 P1
      (repeat' (first | (apply run_qg 1; (focus rfl); (focus exact wt); (focus rfl); (focus (exact qg1))) | (apply run_qg 4; (focus rfl); (focus exact wt); (focus rfl); (focus (first | exact qg4 | exact qs4))) | (apply run_qg 6; (focus rfl); (focus exact wt); (focus rfl); (focus (first | exact qs6 | exact qg6 | exact q_max rfl rfl rfl | exact q_sliceData rfl rfl (by omega) | exact q_sliceDataN rfl rfl | exact q_unsafeStringN rfl rfl rfl | exact q_cap_slice rfl rfl))) | refine cod_seq ?_ | refine cod_region ?_ | refine run_nil ?_ | refine pst_then ?_ | (apply cod_cond_t; (focus rfl)) | refine cod_ret ?_ | refine pst_then_ret ?_ | (apply run_offs; (focus rfl); (focus rfl); (focus rfl))))
      exact pst_fin rfl (by exact resa) _ (⟨rfl, rfl⟩) (by exact hsa)
  · clear SAY S1 P1
    (repeat' (first | (apply run_qg 1; (focus rfl); (focus exact wt); (focus rfl); (focus (exact qg1))) | (apply run_qg 4; (focus rfl); (focus exact wt); (focus rfl); (focus (first | exact qg4 | exact qs4))) | (apply run_qg 6; (focus rfl); (focus exact wt); (focus rfl); (focus (first | exact qs6 | exact qg6 | exact q_max rfl rfl rfl | exact q_sliceData rfl rfl (by omega) | exact q_sliceDataN rfl rfl | exact q_unsafeStringN rfl rfl rfl | exact q_cap_slice rfl rfl))) | refine cod_seq ?_ | refine cod_region ?_ | refine run_nil ?_ | refine pst_then ?_ | (apply cod_cond_t; (focus rfl)) | refine cod_ret ?_ | refine pst_then_ret ?_ | (apply run_offs; (focus rfl); (focus rfl); (focus rfl))))
    exact pst_fin rfl (by exact resa) _ (⟨rfl, rfl⟩) (by exact hsa)
theorem walk (p : ByteArray) (hp : p.size ≤ 1048576) (s : ByteArray) (hs : s.size ≤ 1048576) (W : World) (hT : TabsIn W) :
    Calls Tryd.prog 4 #[.string p, .string s] W fun e w' => e = .returned (.bool true) ∧ Below W.heap.size W w' := by
  obtain ⟨l, rfl, hl⟩ := str_of p
  obtain ⟨x, rfl, hx⟩ := str_of s
  exact law_of_ct (fun e he => by rw [List.mem_singleton.1 he]; exact ⟨old_excl _, old_self W⟩) (law_any hT l x (by omega) (by omega))
end Go.Proofs.YtcbpeampjhegcaaDoor.lawGlobNot
