/-
  GlobStars: the walk.
-/
import Derived.Test.YtcbpeampjhegcaaDoorGlobAns
namespace Go.Proofs.YtcbpeampjhegcaaDoor.lawGlobStars
open Go.RowKit kit sl glob
set_option linter.unusedVariables false
def star : Pt := (true, false, [])
theorem sigs_low {c : UInt8} {x : List UInt8} (h : c.toNat < 128) : sigs (c :: x) = c.toNat :: sigs x := sig_eq (sig_low h (sig_sigs x))
theorem sigs_star (p : List UInt8) : sigs (p ++ [42]) = sigs p ++ [42] := by
  have h : Sig ((42 : UInt8) :: []) [42] := sig_low (by decide) .nil
  exact sig_eq (sig_app (by decide) h (sig_sigs p))
theorem sigs_star2 (p : List UInt8) : sigs (p ++ [42, 42]) = sigs p ++ [42, 42] := by
  have h : Sig ((42 : UInt8) :: [42]) [42, 42] := sig_low (by decide) (sig_low (by decide) .nil)
  exact sig_eq (sig_app (by decide) h (sig_sigs p))
theorem parts_star : partsS [42] = some [star] := rfl
theorem parts_star2 : partsS [42, 42] = some [star, star] := rfl
theorem mv_star (s : List UInt8) (h : s.length ≤ 40) : matchV [42] s = (true, 0) := by
  have hp : partsS (sigs [42]) = some [star] := by rw [sigs_low (by decide)]; exact parts_star
  obtain ⟨b, h1, h2⟩ := mv_ok (p := [42]) (s := s) (by simp; omega) hp
  rw [h1, h2.2 ((m_star (p := star) rfl [] _).2 ⟨0, Nat.zero_le _, by rw [List.take_zero]; exact .nil⟩)]
theorem mv_snd (p s : List UInt8) : (matchV p s).2 = 0 → ∃ ps, partsS (sigs p) = some ps := by
  intro h
  unfold matchV at h
  split at h
  · cases h
  · cases hp : partsS (sigs p) with
    | none => rw [hp] at h; cases h
    | some ps => exact ⟨ps, rfl⟩
theorem sigs_len_offs {s : List UInt8} {j : Nat} (h : j ≤ (sigs s).length) : sigs (s.take (offs (sigs s) j)) = (sigs s).take j := sig_eq (sig_take (sig_sigs s) j)
theorem offs_full (s : List UInt8) : offs (sigs s) (sigs s).length = s.length := by
  unfold offs
  rw [List.take_length, ← sig_text (sig_sigs s)]
theorem offs_mono (S : List Nat) {i j : Nat} (h : i ≤ j) : offs S i ≤ offs S j := by
  unfold offs
  obtain ⟨d, rfl⟩ : ∃ d, j = i + d := ⟨j - i, by omega⟩
  rw [List.take_add, List.flatMap_append, List.length_append]
  omega
/-- where the signs begin, and the end -/
theorem ats_at (s : List UInt8) {j : Nat} (h : j ≤ (sigs s).length) : (atsN (sigs s) (sigs s).length ++ [s.length])[j]? = some (offs (sigs s) j) := by
  rcases Nat.lt_or_ge j (sigs s).length with h1 | h1
  · rw [List.getElem?_append_left (by rw [atsN_len]; exact h1)]
    unfold atsN
    rw [List.getElem?_map, List.getElem?_range h1]
    rfl
  · have : j = (sigs s).length := by omega
    rw [this, List.getElem?_append_right (by rw [atsN_len]; exact Nat.le_refl _), atsN_len, Nat.sub_self, offs_full]
    rfl
attribute [local irreducible] box own sl old bptr eptr Qt Opr Run Cod Pst Drn
attribute [local irreducible] matchV sigs offs atsN cmpB partsS
set_option maxRecDepth 100000 in
set_option maxHeartbeats 8000000 in
theorem law_any {W : World} (hT : TabsIn W) (p s : List UInt8) (hp : p.length ≤ 140737488351232) (hs : s.length ≤ 140737488351232) :
    Ct Tryd.prog 3 [.string (str p), .string (str s)] [old W] fun v H' => v = .bool true ∧ H' = [] := by
  have C0 := match_v hT [42] s (by simp) hs
  have C1 := match_v hT p [] hp (by simp)
  have e0 : ∀ z, matchV p [] = z → matchV p [] = z := fun _ h => h
  by_cases hs40 : s.length ≤ 40
  · rw [mv_star s hs40] at C0
    have h40 : ¬ 40 < s.length := by omega
    by_cases hp39 : 39 < p.length
    · by_cases hz : (matchV p []).2 = 0
      · generalize (matchV p []).2 = z at *
        subst hz
        (refine spec_enter Tryd.func3 Tryd.ntmps3 rfl rfl fun Fr => ?_; dsimp only [List.cons_append, List.nil_append, ini, Nat.reduceAdd])
        (repeat' (first | (apply run_qg 1; (focus rfl); (focus exact wt); (focus rfl); (focus (exact qg1))) | (apply run_qg 4; (focus rfl); (focus exact wt); (focus rfl); (focus (first | exact qg4 | exact qs4))) | (apply run_qg 6; (focus rfl); (focus exact wt); (focus rfl); (focus (first | exact qs6 | exact qg6 | exact q_max rfl rfl rfl | exact q_sliceData rfl rfl (by omega) | exact q_sliceDataN rfl rfl | exact q_unsafeStringN rfl rfl rfl | exact q_cap_slice rfl rfl))) | refine cod_seq ?_ | refine cod_region ?_ | refine run_nil ?_ | refine pst_then ?_ | (apply cod_cond_t; (focus rfl)) | (apply cod_cond_f; (focus rfl)) | refine cod_ret ?_ | refine cod_skip ?_ | refine pst_then_ret ?_ | (apply run_offs; (focus rfl); (focus rfl); (focus rfl)) | (apply run_osg 7; (focus rfl); (focus exact wt); (focus rfl); (focus (exact opr_call_ls (by rfl) (C0 ..) (by rfl) lpa)); (rintro _ _ ⟨rfl, rfl⟩)) | (apply run_osg 7; (focus rfl); (focus exact wt); (focus rfl); (focus (exact opr_call_ls (by rfl) (C1 ..) (by rfl) lpa)); (rintro _ _ ⟨rfl, rfl⟩))))
        exact pst_fin rfl (by exact resa) _ (⟨rfl, rfl⟩) (by exact hsa)
      · generalize (matchV p []).2 = z at *
        (refine spec_enter Tryd.func3 Tryd.ntmps3 rfl rfl fun Fr => ?_; dsimp only [List.cons_append, List.nil_append, ini, Nat.reduceAdd])
        (repeat' (first | (apply run_qg 1; (focus rfl); (focus exact wt); (focus rfl); (focus (exact qg1))) | (apply run_qg 4; (focus rfl); (focus exact wt); (focus rfl); (focus (first | exact qg4 | exact qs4))) | (apply run_qg 6; (focus rfl); (focus exact wt); (focus rfl); (focus (first | exact qs6 | exact qg6 | exact q_max rfl rfl rfl | exact q_sliceData rfl rfl (by omega) | exact q_sliceDataN rfl rfl | exact q_unsafeStringN rfl rfl rfl | exact q_cap_slice rfl rfl))) | refine cod_seq ?_ | refine cod_region ?_ | refine run_nil ?_ | refine pst_then ?_ | (apply cod_cond_t; (focus rfl)) | (apply cod_cond_f; (focus rfl)) | refine cod_ret ?_ | refine cod_skip ?_ | refine pst_then_ret ?_ | (apply run_offs; (focus rfl); (focus rfl); (focus rfl)) | (apply run_osg 7; (focus rfl); (focus exact wt); (focus rfl); (focus (exact opr_call_ls (by rfl) (C0 ..) (by rfl) lpa)); (rintro _ _ ⟨rfl, rfl⟩)) | (apply run_osg 7; (focus rfl); (focus exact wt); (focus rfl); (focus (exact opr_call_ls (by rfl) (C1 ..) (by rfl) lpa)); (rintro _ _ ⟨rfl, rfl⟩))))
        exact pst_fin rfl (by exact resa) _ (⟨rfl, rfl⟩) (by exact hsa)
    · have hp40 : ¬ (40 < p.length ∨ 40 < s.length) := by omega
      by_cases hz : (matchV p []).2 = 0
      · obtain ⟨ps, hps⟩ := mv_snd p [] hz
        have hp1 : partsS (sigs (p ++ [42])) = some (ps ++ [star]) := by rw [sigs_star]; exact partsS_app hps parts_star
        have hp2 : partsS (sigs (p ++ [42, 42])) = some (ps ++ [star, star]) := by rw [sigs_star2]; exact partsS_app hps parts_star2
        have hl1 : (p ++ [42]).length = p.length + 1 := by rw [List.length_append]; rfl
        have hl2 : (p ++ [42, 42]).length = p.length + 2 := by rw [List.length_append]; rfl
        obtain ⟨ok, h1, h2⟩ := mv_ok (p := p ++ [42]) (s := s) (by omega) hp1
        rw [m_star (p := star) rfl] at h2
        have C2 := match_v hT (p ++ [42]) s (by omega) hs
        rw [h1] at C2
        have C3 := match_v hT (p ++ [42, 42]) s (by omega) hs
        have C4 : ∀ j, j ≤ (sigs s).length → ∃ b, (b = true ↔ M ps ((sigs s).take j)) ∧ Ct Tryd.prog 6 [.string (str p), .string (str (s.take (offs (sigs s) j)))] [old W] fun v H' => v = .tuple #[.bool b, .int .i64 0] ∧ H' = [] := by
          intro j hj
          have hl3 : (s.take (offs (sigs s) j)).length ≤ s.length := by rw [List.length_take]; omega
          obtain ⟨b, g1, g2⟩ := mv_ok (p := p) (s := s.take (offs (sigs s) j)) (by omega) hps
          rw [sigs_len_offs hj] at g2
          refine ⟨b, g2, ?_⟩
          have := match_v hT p (s.take (offs (sigs s) j)) (by omega) (by omega)
          rw [g1] at this
          exact this
        have S0 := signs_doc s (by omega)
        unfold SgR at S0
        have hat := fun j => ats_at s (j := j)
        have hof : ∀ j, j ≤ (sigs s).length → offs (sigs s) j ≤ s.length := fun j hj => by rw [← offs_full s]; exact offs_mono _ hj
        have hfs := offs_full s
        have hSl := (sig_bd (sig_sigs s)).1
        have hatl : (atsN (sigs s) (sigs s).length ++ [s.length]).length = (sigs s).length + 1 := by rw [List.length_append, atsN_len]; rfl
        have DEC : p.length < 39 → matchV (p ++ [42, 42]) s = (ok, 0) := fun hlt => by
          obtain ⟨b2, k1, k2⟩ := mv_ok (p := p ++ [42, 42]) (s := s) (by omega) hp2
          rw [m_two (p := star) rfl, m_star (p := star) rfl] at k2
          rw [k1]
          have : b2 = ok := by
            cases ok with
            | true => exact k2.2 (h2.1 rfl)
            | false =>
              cases b2 with
              | false => rfl
              | true => exact absurd (h2.2 (k2.1 rfl)) (by decide)
          rw [this]
        generalize atsN (sigs s) (sigs s).length ++ [s.length] = ats at *
        generalize offs (sigs s) = off at *
        generalize sigs s = S at *
        clear h1 hp1 hp2 hl1 hl2 hps e0 hfs
        generalize (matchV p []).2 = z at *
        subst hz
        have E0 : ∃ ok2 e2, Ct Tryd.prog 6 [.string (str (p ++ [42, 42])), .string (str s)] [old W] (fun v H' => v = .tuple #[.bool ok2, .int .i64 e2] ∧ H' = []) ∧ (p.length < 39 → ok2 = ok ∧ e2 = 0) := by
          refine ⟨_, _, C3, fun h => ?_⟩
          rw [DEC h]
          exact ⟨rfl, rfl⟩
        clear C3 DEC
        obtain ⟨ok2, e2, C3, hd⟩ := E0
        have hbb : ∀ b : Bool, (b != b) = false := fun b => by cases b <;> rfl
        have hob := hbb ok
        refine spec_mono (R := fun v H' => v = .bool true ∧ H' = []) ?_ fun _ _ h => h
        rcases Nat.lt_or_ge p.length 39 with hlt | hge
        · obtain ⟨h7, h8⟩ := hd hlt
          clear hd
          subst h8
          have h9 := h7.symm
          subst h9
          clear h7
          (refine spec_enter Tryd.func3 Tryd.ntmps3 rfl rfl fun Fr => ?_; dsimp only [List.cons_append, List.nil_append, ini, Nat.reduceAdd])
          (repeat' (first | (apply run_qg 1; (focus rfl); (focus exact wt); (focus rfl); (focus (exact qg1))) | (apply run_qg 4; (focus rfl); (focus exact wt); (focus rfl); (focus (first | exact qg4 | exact qs4))) | (apply run_qg 6; (focus rfl); (focus exact wt); (focus rfl); (focus (first | exact qs6 | exact qg6 | exact q_max rfl rfl rfl | exact q_sliceData rfl rfl (by omega) | exact q_sliceDataN rfl rfl | exact q_unsafeStringN rfl rfl rfl | exact q_cap_slice rfl rfl))) | refine cod_seq ?_ | refine cod_region ?_ | refine run_nil ?_ | refine pst_then ?_ | (apply cod_cond_f; (focus rfl)) | refine cod_skip ?_ | (apply run_osg 7; (focus rfl); (focus exact wt); (focus rfl); (focus (exact opr_call_ls (by rfl) (C0 ..) (by rfl) lpa)); (rintro _ _ ⟨rfl, rfl⟩)) | (apply run_osg 7; (focus rfl); (focus exact wt); (focus rfl); (focus (exact opr_call_ls (by rfl) (C1 ..) (by rfl) lpa)); (rintro _ _ ⟨rfl, rfl⟩)) | (apply run_osg 7; (focus rfl); (focus exact wt); (focus rfl); (focus (exact opr_call_ls (by rfl) (C2 ..) (by rfl) lpa)); (rintro _ _ ⟨rfl, rfl⟩)) | (apply run_osg 7; (focus rfl); (focus exact wt); (focus rfl); (focus (exact opr_call_ls (by rfl) (C3 ..) (by rfl) lpa)); (rintro _ _ ⟨rfl, rfl⟩))))
          (refine run_os wt rfl (opr_call_l rfl (S0) rfl (by exact lpa)) ?_; rintro _ _ ⟨_, ⟨q7, c7, q8, c8, rfl, rfl⟩, rfl⟩; dsimp only [List.cons_append, List.nil_append])
          rw [← hatl]
          clear C0 C1 C2 C3 S0
          (repeat' (first | (apply run_qg 1; (focus rfl); (focus exact wt); (focus rfl); (focus (exact qg1))) | (apply run_qg 6; (focus rfl); (focus exact wt); (focus rfl); (focus (first | exact qs6 | exact qg6 | exact q_max rfl rfl rfl | exact q_sliceData rfl rfl (by omega) | exact q_sliceDataN rfl rfl | exact q_unsafeStringN rfl rfl rfl | exact q_cap_slice rfl rfl))) | refine cod_seq ?_ | refine cod_region ?_ | refine run_nil ?_ | refine pst_then ?_ | refine cod_block ?_))
          (refine cod_loop_ro (σ := Nat × Bool) (fun x => x.1 ≤ S.length + 1 ∧ (x.2 = true ↔ ∃ j, j < x.1 ∧ M ps (S.take j))) (fun x => [(87, .int .i64 (x.1 : Int)), (13, .bool x.2)]) (fun x => S.length + 1 - x.1) ((0, false)) (by exact ⟨Nat.zero_le _, ⟨fun h => absurd h (by decide), fun ⟨j, h, _⟩ => absurd h (Nat.not_lt_zero _)⟩⟩) (by exact fsa) (fun ⟨k, sm⟩ ⟨hk, hsm⟩ => ?_); dsimp only [List.cons_append, List.nil_append])
          dsimp only at hk hsm
          rcases Nat.lt_or_ge k (S.length + 1) with hkl | hkg
          · have hak := hat k (by omega)
            have hok := hof k (by omega)
            obtain ⟨b, hb, C5⟩ := C4 k (by omega)
            have hn1 : (sm || b) = true ↔ ∃ j, j < k + 1 ∧ M ps (S.take j) := by
              rw [Bool.or_eq_true, hsm, hb]
              constructor
              · rintro (⟨j, h1, h2⟩ | h)
                · exact ⟨j, by omega, h2⟩
                · exact ⟨k, by omega, h⟩
              · rintro ⟨j, h1, h2⟩
                rcases Nat.lt_or_ge j k with h3 | h3
                · exact .inl ⟨j, h3, h2⟩
                · have : j = k := by omega
                  exact .inr (this ▸ h2)
            clear hat hof C4 h2 hsm hb
            cases sm with
            | true =>
              (repeat' (first | (apply run_qg 1; (focus rfl); (focus exact wt); (focus rfl); (focus (exact qg1))) | (apply run_qg 2; (focus rfl); (focus exact wt); (focus rfl); (focus (first | exact qg2 | exact qs2))) | (apply run_qg 3; (focus rfl); (focus exact wt); (focus rfl); (focus (first | exact qg3 | exact qs3))) | (apply run_qg 4; (focus rfl); (focus exact wt); (focus rfl); (focus (first | exact qg4 | exact qs4))) | (apply run_qg 12; (focus rfl); (focus exact wt); (focus rfl); (focus (first | exact qs12 | exact q_cutp rfl rfl rfl rfl (by omega) (by omega) | exact q_slice_cap rfl rfl rfl rfl (by omega)))) | refine cod_seq ?_ | refine cod_region ?_ | refine run_nil ?_ | refine pst_then ?_ | (apply cod_cond_t; (focus rfl)) | refine cod_block ?_ | refine cod_skip ?_ | refine pst_block ?_ | (apply run_offs; (focus rfl); (focus rfl); (focus rfl)) | (apply run_osg 7; (focus rfl); (focus exact wt); (focus rfl); (focus (exact opr_call_ls (by rfl) (C5 ..) (by rfl) lpa)); (rintro _ _ ⟨rfl, rfl⟩))))
              refine pst_again ((k + 1, true)) ?_ (FSub.of (by (try dsimp only); exact fsa)) (by (try dsimp only); exact hsa) ?_
              · exact ⟨hkl, hn1⟩
              · dsimp only; omega
            | false =>
              (repeat' (first | (apply run_qg 1; (focus rfl); (focus exact wt); (focus rfl); (focus (exact qg1))) | (apply run_qg 2; (focus rfl); (focus exact wt); (focus rfl); (focus (first | exact qg2 | exact qs2))) | (apply run_qg 3; (focus rfl); (focus exact wt); (focus rfl); (focus (first | exact qg3 | exact qs3))) | (apply run_qg 4; (focus rfl); (focus exact wt); (focus rfl); (focus (first | exact qg4 | exact qs4))) | (apply run_qg 12; (focus rfl); (focus exact wt); (focus rfl); (focus (first | exact qs12 | exact q_cutp rfl rfl rfl rfl (by omega) (by omega) | exact q_slice_cap rfl rfl rfl rfl (by omega)))) | refine cod_seq ?_ | refine cod_region ?_ | refine run_nil ?_ | refine pst_then ?_ | (apply cod_cond_t; (focus rfl)) | refine cod_block ?_ | refine cod_skip ?_ | refine pst_block ?_ | (apply run_osg 7; (focus rfl); (focus exact wt); (focus rfl); (focus (exact opr_call_ls (by rfl) (C5 ..) (by rfl) lpa)); (rintro _ _ ⟨rfl, rfl⟩))))
              refine pst_again ((k + 1, b)) ?_ (FSub.of (by (try dsimp only); exact fsa)) (by (try dsimp only); exact hsa) ?_
              · exact ⟨hkl, hn1⟩
              · dsimp only; omega
          · have hkn : k = S.length + 1 := by omega
            subst hkn
            have hsok : sm = ok := by
              rw [Bool.eq_iff_iff, hsm, h2]
              exact ⟨fun ⟨j, h1, h2⟩ => ⟨j, by omega, h2⟩, fun ⟨j, h1, h2⟩ => ⟨j, by omega, h2⟩⟩
            subst hsok
            have hss : (sm == sm) = true := by cases sm <;> rfl
            clear hat hof C4 h2 hsm
            (repeat' (first | (apply run_qg 1; (focus rfl); (focus exact wt); (focus rfl); (focus (exact qg1))) | (apply run_qg 4; (focus rfl); (focus exact wt); (focus rfl); (focus (first | exact qg4 | exact qs4))) | refine cod_seq ?_ | refine cod_region ?_ | refine run_nil ?_ | refine pst_then ?_ | (apply cod_cond_f; (focus rfl)) | refine cod_exit ?_ | refine cod_ret ?_ | refine pst_block_here ?_ | refine pst_then_exit ?_))
            exact pst_fin rfl (by exact resa) _ (⟨rfl, rfl⟩) (by exact hsa)
        · clear hd
          have hge2 : ¬ p.length < 39 := by omega
          (refine spec_enter Tryd.func3 Tryd.ntmps3 rfl rfl fun Fr => ?_; dsimp only [List.cons_append, List.nil_append, ini, Nat.reduceAdd])
          (repeat' (first | (apply run_qg 1; (focus rfl); (focus exact wt); (focus rfl); (focus (exact qg1))) | (apply run_qg 4; (focus rfl); (focus exact wt); (focus rfl); (focus (first | exact qg4 | exact qs4))) | (apply run_qg 6; (focus rfl); (focus exact wt); (focus rfl); (focus (first | exact qs6 | exact qg6 | exact q_max rfl rfl rfl | exact q_sliceData rfl rfl (by omega) | exact q_sliceDataN rfl rfl | exact q_unsafeStringN rfl rfl rfl | exact q_cap_slice rfl rfl))) | refine cod_seq ?_ | refine cod_region ?_ | refine run_nil ?_ | refine pst_then ?_ | (apply cod_cond_f; (focus rfl)) | refine cod_skip ?_ | (apply run_offs; (focus rfl); (focus rfl); (focus rfl)) | (apply run_offus; (focus rfl); (focus rfl); (focus rfl)) | (apply run_osg 7; (focus rfl); (focus exact wt); (focus rfl); (focus (exact opr_call_ls (by rfl) (C0 ..) (by rfl) lpa)); (rintro _ _ ⟨rfl, rfl⟩)) | (apply run_osg 7; (focus rfl); (focus exact wt); (focus rfl); (focus (exact opr_call_ls (by rfl) (C1 ..) (by rfl) lpa)); (rintro _ _ ⟨rfl, rfl⟩)) | (apply run_osg 7; (focus rfl); (focus exact wt); (focus rfl); (focus (exact opr_call_ls (by rfl) (C2 ..) (by rfl) lpa)); (rintro _ _ ⟨rfl, rfl⟩)) | (apply run_osg 7; (focus rfl); (focus exact wt); (focus rfl); (focus (exact opr_call_ls (by rfl) (C3 ..) (by rfl) lpa)); (rintro _ _ ⟨rfl, rfl⟩))))
          (refine run_os wt rfl (opr_call_l rfl (S0) rfl (by exact lpa)) ?_; rintro _ _ ⟨_, ⟨q7, c7, q8, c8, rfl, rfl⟩, rfl⟩; dsimp only [List.cons_append, List.nil_append])
          rw [← hatl]
          clear C0 C1 C2 C3 S0
          (repeat' (first | (apply run_qg 1; (focus rfl); (focus exact wt); (focus rfl); (focus (exact qg1))) | (apply run_qg 6; (focus rfl); (focus exact wt); (focus rfl); (focus (first | exact qs6 | exact qg6 | exact q_max rfl rfl rfl | exact q_sliceData rfl rfl (by omega) | exact q_sliceDataN rfl rfl | exact q_unsafeStringN rfl rfl rfl | exact q_cap_slice rfl rfl))) | refine cod_seq ?_ | refine cod_region ?_ | refine run_nil ?_ | refine pst_then ?_ | refine cod_block ?_))
          (refine cod_loop_ro (σ := Nat × Bool) (fun x => x.1 ≤ S.length + 1 ∧ (x.2 = true ↔ ∃ j, j < x.1 ∧ M ps (S.take j))) (fun x => [(87, .int .i64 (x.1 : Int)), (13, .bool x.2)]) (fun x => S.length + 1 - x.1) ((0, false)) (by exact ⟨Nat.zero_le _, ⟨fun h => absurd h (by decide), fun ⟨j, h, _⟩ => absurd h (Nat.not_lt_zero _)⟩⟩) (by exact fsa) (fun ⟨k, sm⟩ ⟨hk, hsm⟩ => ?_); dsimp only [List.cons_append, List.nil_append])
          dsimp only at hk hsm
          rcases Nat.lt_or_ge k (S.length + 1) with hkl | hkg
          · have hak := hat k (by omega)
            have hok := hof k (by omega)
            obtain ⟨b, hb, C5⟩ := C4 k (by omega)
            have hn1 : (sm || b) = true ↔ ∃ j, j < k + 1 ∧ M ps (S.take j) := by
              rw [Bool.or_eq_true, hsm, hb]
              constructor
              · rintro (⟨j, h1, h2⟩ | h)
                · exact ⟨j, by omega, h2⟩
                · exact ⟨k, by omega, h⟩
              · rintro ⟨j, h1, h2⟩
                rcases Nat.lt_or_ge j k with h3 | h3
                · exact .inl ⟨j, h3, h2⟩
                · have : j = k := by omega
                  exact .inr (this ▸ h2)
            clear hat hof C4 h2 hsm hb
            cases sm with
            | true =>
              (repeat' (first | (apply run_qg 1; (focus rfl); (focus exact wt); (focus rfl); (focus (exact qg1))) | (apply run_qg 2; (focus rfl); (focus exact wt); (focus rfl); (focus (first | exact qg2 | exact qs2))) | (apply run_qg 3; (focus rfl); (focus exact wt); (focus rfl); (focus (first | exact qg3 | exact qs3))) | (apply run_qg 4; (focus rfl); (focus exact wt); (focus rfl); (focus (first | exact qg4 | exact qs4))) | (apply run_qg 12; (focus rfl); (focus exact wt); (focus rfl); (focus (first | exact qs12 | exact q_cutp rfl rfl rfl rfl (by omega) (by omega) | exact q_slice_cap rfl rfl rfl rfl (by omega)))) | refine cod_seq ?_ | refine cod_region ?_ | refine run_nil ?_ | refine pst_then ?_ | (apply cod_cond_t; (focus rfl)) | refine cod_block ?_ | refine cod_skip ?_ | refine pst_block ?_ | (apply run_offs; (focus rfl); (focus rfl); (focus rfl)) | (apply run_osg 7; (focus rfl); (focus exact wt); (focus rfl); (focus (exact opr_call_ls (by rfl) (C5 ..) (by rfl) lpa)); (rintro _ _ ⟨rfl, rfl⟩))))
              refine pst_again ((k + 1, true)) ?_ (FSub.of (by (try dsimp only); exact fsa)) (by (try dsimp only); exact hsa) ?_
              · exact ⟨hkl, hn1⟩
              · dsimp only; omega
            | false =>
              (repeat' (first | (apply run_qg 1; (focus rfl); (focus exact wt); (focus rfl); (focus (exact qg1))) | (apply run_qg 2; (focus rfl); (focus exact wt); (focus rfl); (focus (first | exact qg2 | exact qs2))) | (apply run_qg 3; (focus rfl); (focus exact wt); (focus rfl); (focus (first | exact qg3 | exact qs3))) | (apply run_qg 4; (focus rfl); (focus exact wt); (focus rfl); (focus (first | exact qg4 | exact qs4))) | (apply run_qg 12; (focus rfl); (focus exact wt); (focus rfl); (focus (first | exact qs12 | exact q_cutp rfl rfl rfl rfl (by omega) (by omega) | exact q_slice_cap rfl rfl rfl rfl (by omega)))) | refine cod_seq ?_ | refine cod_region ?_ | refine run_nil ?_ | refine pst_then ?_ | (apply cod_cond_t; (focus rfl)) | refine cod_block ?_ | refine cod_skip ?_ | refine pst_block ?_ | (apply run_osg 7; (focus rfl); (focus exact wt); (focus rfl); (focus (exact opr_call_ls (by rfl) (C5 ..) (by rfl) lpa)); (rintro _ _ ⟨rfl, rfl⟩))))
              refine pst_again ((k + 1, b)) ?_ (FSub.of (by (try dsimp only); exact fsa)) (by (try dsimp only); exact hsa) ?_
              · exact ⟨hkl, hn1⟩
              · dsimp only; omega
          · have hkn : k = S.length + 1 := by omega
            subst hkn
            have hsok : sm = ok := by
              rw [Bool.eq_iff_iff, hsm, h2]
              exact ⟨fun ⟨j, h1, h2⟩ => ⟨j, by omega, h2⟩, fun ⟨j, h1, h2⟩ => ⟨j, by omega, h2⟩⟩
            subst hsok
            have hss : (sm == sm) = true := by cases sm <;> rfl
            clear hat hof C4 h2 hsm
            (repeat' (first | (apply run_qg 1; (focus rfl); (focus exact wt); (focus rfl); (focus (exact qg1))) | (apply run_qg 4; (focus rfl); (focus exact wt); (focus rfl); (focus (first | exact qg4 | exact qs4))) | refine cod_seq ?_ | refine cod_region ?_ | refine run_nil ?_ | refine pst_then ?_ | (apply cod_cond_f; (focus rfl)) | refine cod_exit ?_ | refine cod_ret ?_ | refine pst_block_here ?_ | refine pst_then_exit ?_))
            exact pst_fin rfl (by exact resa) _ (⟨rfl, rfl⟩) (by exact hsa)
      · generalize (matchV p []).2 = z at *
        (refine spec_enter Tryd.func3 Tryd.ntmps3 rfl rfl fun Fr => ?_; dsimp only [List.cons_append, List.nil_append, ini, Nat.reduceAdd])
        (repeat' (first | (apply run_qg 1; (focus rfl); (focus exact wt); (focus rfl); (focus (exact qg1))) | (apply run_qg 4; (focus rfl); (focus exact wt); (focus rfl); (focus (first | exact qg4 | exact qs4))) | (apply run_qg 6; (focus rfl); (focus exact wt); (focus rfl); (focus (first | exact qs6 | exact qg6 | exact q_max rfl rfl rfl | exact q_sliceData rfl rfl (by omega) | exact q_sliceDataN rfl rfl | exact q_unsafeStringN rfl rfl rfl | exact q_cap_slice rfl rfl))) | refine cod_seq ?_ | refine cod_region ?_ | refine run_nil ?_ | refine pst_then ?_ | (apply cod_cond_t; (focus rfl)) | (apply cod_cond_f; (focus rfl)) | refine cod_ret ?_ | refine cod_skip ?_ | refine pst_then_ret ?_ | (apply run_offs; (focus rfl); (focus rfl); (focus rfl)) | (apply run_osg 7; (focus rfl); (focus exact wt); (focus rfl); (focus (exact opr_call_ls (by rfl) (C0 ..) (by rfl) lpa)); (rintro _ _ ⟨rfl, rfl⟩)) | (apply run_osg 7; (focus rfl); (focus exact wt); (focus rfl); (focus (exact opr_call_ls (by rfl) (C1 ..) (by rfl) lpa)); (rintro _ _ ⟨rfl, rfl⟩))))
        exact pst_fin rfl (by exact resa) _ (⟨rfl, rfl⟩) (by exact hsa)
  · have h40 : 40 < s.length := by omega
    by_cases hz : (matchV p []).2 = 0
    · generalize (matchV p []).2 = z at *
      subst hz
      by_cases hp39 : 39 < p.length
      · (refine spec_enter Tryd.func3 Tryd.ntmps3 rfl rfl fun Fr => ?_; dsimp only [List.cons_append, List.nil_append, ini, Nat.reduceAdd])
        (repeat' (first | (apply run_qg 1; (focus rfl); (focus exact wt); (focus rfl); (focus (exact qg1))) | (apply run_qg 4; (focus rfl); (focus exact wt); (focus rfl); (focus (first | exact qg4 | exact qs4))) | (apply run_qg 6; (focus rfl); (focus exact wt); (focus rfl); (focus (first | exact qs6 | exact qg6 | exact q_max rfl rfl rfl | exact q_sliceData rfl rfl (by omega) | exact q_sliceDataN rfl rfl | exact q_unsafeStringN rfl rfl rfl | exact q_cap_slice rfl rfl))) | refine cod_seq ?_ | refine cod_region ?_ | refine run_nil ?_ | refine pst_then ?_ | (apply cod_cond_t; (focus rfl)) | (apply cod_cond_f; (focus rfl)) | refine cod_ret ?_ | refine cod_skip ?_ | refine pst_then_ret ?_ | (apply run_offs; (focus rfl); (focus rfl); (focus rfl)) | (apply run_offus; (focus rfl); (focus rfl); (focus rfl)) | (apply run_osg 7; (focus rfl); (focus exact wt); (focus rfl); (focus (exact opr_call_ls (by rfl) (C0 ..) (by rfl) lpa)); (rintro _ _ ⟨rfl, rfl⟩)) | (apply run_osg 7; (focus rfl); (focus exact wt); (focus rfl); (focus (exact opr_call_ls (by rfl) (C1 ..) (by rfl) lpa)); (rintro _ _ ⟨rfl, rfl⟩))))
        exact pst_fin rfl (by exact resa) _ (⟨rfl, rfl⟩) (by exact hsa)
      · (refine spec_enter Tryd.func3 Tryd.ntmps3 rfl rfl fun Fr => ?_; dsimp only [List.cons_append, List.nil_append, ini, Nat.reduceAdd])
        (repeat' (first | (apply run_qg 1; (focus rfl); (focus exact wt); (focus rfl); (focus (exact qg1))) | (apply run_qg 4; (focus rfl); (focus exact wt); (focus rfl); (focus (first | exact qg4 | exact qs4))) | (apply run_qg 6; (focus rfl); (focus exact wt); (focus rfl); (focus (first | exact qs6 | exact qg6 | exact q_max rfl rfl rfl | exact q_sliceData rfl rfl (by omega) | exact q_sliceDataN rfl rfl | exact q_unsafeStringN rfl rfl rfl | exact q_cap_slice rfl rfl))) | refine cod_seq ?_ | refine cod_region ?_ | refine run_nil ?_ | refine pst_then ?_ | (apply cod_cond_t; (focus rfl)) | (apply cod_cond_f; (focus rfl)) | refine cod_ret ?_ | refine cod_skip ?_ | refine pst_then_ret ?_ | (apply run_offs; (focus rfl); (focus rfl); (focus rfl)) | (apply run_offus; (focus rfl); (focus rfl); (focus rfl)) | (apply run_osg 7; (focus rfl); (focus exact wt); (focus rfl); (focus (exact opr_call_ls (by rfl) (C0 ..) (by rfl) lpa)); (rintro _ _ ⟨rfl, rfl⟩)) | (apply run_osg 7; (focus rfl); (focus exact wt); (focus rfl); (focus (exact opr_call_ls (by rfl) (C1 ..) (by rfl) lpa)); (rintro _ _ ⟨rfl, rfl⟩))))
        exact pst_fin rfl (by exact resa) _ (⟨rfl, rfl⟩) (by exact hsa)
    · generalize (matchV p []).2 = z at *
      (refine spec_enter Tryd.func3 Tryd.ntmps3 rfl rfl fun Fr => ?_; dsimp only [List.cons_append, List.nil_append, ini, Nat.reduceAdd])
      (repeat' (first | (apply run_qg 1; (focus rfl); (focus exact wt); (focus rfl); (focus (exact qg1))) | (apply run_qg 4; (focus rfl); (focus exact wt); (focus rfl); (focus (first | exact qg4 | exact qs4))) | (apply run_qg 6; (focus rfl); (focus exact wt); (focus rfl); (focus (first | exact qs6 | exact qg6 | exact q_max rfl rfl rfl | exact q_sliceData rfl rfl (by omega) | exact q_sliceDataN rfl rfl | exact q_unsafeStringN rfl rfl rfl | exact q_cap_slice rfl rfl))) | refine cod_seq ?_ | refine cod_region ?_ | refine run_nil ?_ | refine pst_then ?_ | (apply cod_cond_t; (focus rfl)) | (apply cod_cond_f; (focus rfl)) | refine cod_ret ?_ | refine cod_skip ?_ | refine pst_then_ret ?_ | (apply run_offs; (focus rfl); (focus rfl); (focus rfl)) | (apply run_offus; (focus rfl); (focus rfl); (focus rfl)) | (apply run_osg 7; (focus rfl); (focus exact wt); (focus rfl); (focus (exact opr_call_ls (by rfl) (C0 ..) (by rfl) lpa)); (rintro _ _ ⟨rfl, rfl⟩)) | (apply run_osg 7; (focus rfl); (focus exact wt); (focus rfl); (focus (exact opr_call_ls (by rfl) (C1 ..) (by rfl) lpa)); (rintro _ _ ⟨rfl, rfl⟩))))
      exact pst_fin rfl (by exact resa) _ (⟨rfl, rfl⟩) (by exact hsa)
theorem walk (p : ByteArray) (hp : p.size ≤ reachBytes) (s : ByteArray) (hs : s.size ≤ reachBytes) (W : World) (hT : TabsIn W) :
    Calls Tryd.prog 3 #[.string p, .string s] W fun e w' => e = .returned (.bool true) ∧ Below W.heap.size W w' := by
  obtain ⟨l, rfl, hl⟩ := str_of p
  obtain ⟨x, rfl, hx⟩ := str_of s
  have hr : reachBytes = 140737488351232 := rfl
  exact law_of_ct (fun e he => by rw [List.mem_singleton.1 he]; exact ⟨old_excl _, old_self W⟩) (law_any hT l x (by omega) (by omega))
end Go.Proofs.YtcbpeampjhegcaaDoor.lawGlobStars
