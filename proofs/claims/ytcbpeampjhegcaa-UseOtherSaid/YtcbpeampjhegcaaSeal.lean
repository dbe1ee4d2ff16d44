/-
  seal: what is sealed, what is opened, and the walks.
-/
import Derived.Test.YtcbpeampjhegcaaSlStr
import Derived.Test.YtcbpeampjhegcaaTypes
import Derived.Test.YtcbpeampjhegcaaFix
import Derived.Test.YtcbpeampjhegcaaSumTable
namespace Go.Proofs.Ytcbpeampjhegcaa.seal
open Go.RowKit kit sl Go.Proofs.Ytcbpeampjhegcaa.fix Go.Proofs.Ytcbpeampjhegcaa.sum
set_option linter.unusedVariables false
attribute [local irreducible] box own sl old bptr eptr Qt Opr Run Cod Pst Drn
theorem unfix_ct (l : List UInt8) (h : l.length ≤ 8) : Ct Try.prog 26 [.string (str l)] [] fun v H' => v = .tuple #[.int .u64 (unfixN l : Int), .int .i64 0] ∧ H' = [] :=
  ct_of_calls fun W _ => (unfix_any (str l) (by rw [str_size]; exact h) W).mono fun e w' ⟨h1, h2⟩ => ⟨by rw [h1], by rw [h2]; exact Below.refl _ _⟩
def sumB (l : List UInt8) : Int := ((moreB 0 l).toNat : Int)
theorem sumB_bd (l : List UInt8) : 0 ≤ sumB l ∧ sumB l ≤ 4294967295 := by
  have := (moreB 0 l).isLt
  unfold sumB
  omega
theorem sum_ct (l : List UInt8) (h : l.length ≤ 1000000000000000) : Ct Try.prog 44 [.string (str l)] [] fun v H' => v = .int .u32 (sumB l) ∧ H' = [] :=
  ct_of_calls fun W _ => sum_any (str l) (by rw [str_size]; exact h) W
def sealE (kind serial : Int) (n : Nat) : Int := if kind ≠ 1 ∧ kind ≠ 2 ∨ serial < 0 ∨ 2147483647 < serial then 1 else if 1000 < (n : Int) then 2 else 0
set_option maxRecDepth 100000 in
set_option maxHeartbeats 8000000 in
theorem fit_any (kind serial : Int) (b : List UInt8) : Ct Try.prog 45 [.int .i64 kind, .int .i64 serial, .string (str b)] [] fun v H' => v = .int .i64 (sealE kind serial b.length) ∧ H' = [] := by
  (refine spec_enter Try.func45 Try.ntmps45 rfl rfl fun Fr => ?_; dsimp only [List.cons_append, List.nil_append, ini, Nat.reduceAdd])
  (repeat' (first | (apply run_qg 1; (focus rfl); (focus exact wt); (focus rfl); (focus (exact qg1))) | (apply run_qg 6; (focus rfl); (focus exact wt); (focus rfl); (focus (first | exact qs6 | exact qg6 | exact q_max rfl rfl rfl | exact q_sliceData rfl rfl (by omega) | exact q_sliceDataN rfl rfl | exact q_unsafeStringN rfl rfl rfl | exact q_cap_slice rfl rfl))) | refine cod_seq ?_ | refine cod_region ?_ | refine run_nil ?_ | refine pst_then ?_ | (apply cod_cond_t; (focus rfl)) | (apply cod_cond_f; (focus rfl)) | refine cod_ret ?_ | refine cod_skip ?_ | refine pst_then_ret ?_ | (apply run_offs; (focus rfl); (focus rfl); (focus rfl)) | ((first | (apply run_lss; (rotate_left 2); (focus rfl)) | (apply run_leq; (rotate_left 2); (focus rfl)) | (apply run_gtr; (rotate_left 2); (focus rfl)) | (apply run_geq; (rotate_left 2); (focus rfl)) | (apply run_eql; (rotate_left 2); (focus rfl)) | (apply run_neq; (rotate_left 2); (focus rfl)) | (apply run_seq; (rotate_left 2); (focus rfl)) | (apply run_sneq; (rotate_left 2); (focus rfl))); (focus rfl); (focus rfl); (rotate_right 2); (focus exact wt); (focus rfl); (all_goals (intro h; dsimp only [upd])))))
  all_goals exact pst_fin rfl resa _ ⟨by unfold sealE; (repeat' split) <;> first | rfl | (exfalso; omega), rfl⟩ hsa
/-- the four bytes of a sum, the lowest first -/
def four (c : Int) : List UInt8 := [c % 256, c / 256 % 256, c / 65536 % 256, c / 16777216].map fun z => UInt8.ofNat z.toNat
def bodyB (kind serial : Int) (b : List UInt8) : List UInt8 := fixB kind.toNat 1 ++ fixB serial.toNat 4 ++ fixB b.length 2 ++ b
def sealB (kind serial : Int) (b : List UInt8) : List UInt8 := bodyB kind serial b ++ four (sumB (bodyB kind serial b))
def sealS (kind serial : Int) (b : List UInt8) : List UInt8 := if sealE kind serial b.length = 0 then sealB kind serial b else []
theorem bodyB_len (kind serial : Int) (b : List UInt8) : (bodyB kind serial b).length = 7 + b.length := by
  simp [bodyB, fixB_len]; omega
/-- what is opened: kind, serial, body, and what goes wrong -/
def cutB (l : List UInt8) (i j : Nat) : List UInt8 := (l.drop i).take (j - i)
def openE (l : List UInt8) : Int :=
  if l.length < 11 then 3 else if 1011 < l.length then 2
  else if l.drop (l.length - 4) ≠ four (sumB (l.take (l.length - 4))) then 5
  else if (unfixN (cutB l 5 7) : Int) ≠ ((l.length - 4 : Nat) : Int) - 7 ∨ sealE ((l.getD 0 0).toNat : Int) (unfixN (cutB l 1 5) : Int) (cutB l 7 (l.length - 4)).length ≠ 0 then 4 else 0
def openK (l : List UInt8) : Int := ((l.getD 0 0).toNat : Int)
def openN (l : List UInt8) : Int := (unfixN (cutB l 1 5) : Int)
def openB (l : List UInt8) : List UInt8 := cutB l 7 (l.length - 4)
def openV (l : List UInt8) : Value :=
  if openE l = 0 then .tuple #[.int .i64 (openK l), .int .i64 (openN l), .string (str (openB l)), .int .i64 0]
  else .tuple #[.int .i64 0, .int .i64 0, .string (str []), .int .i64 (openE l)]
set_option maxRecDepth 100000 in
set_option maxHeartbeats 8000000 in
theorem open_any (l : List UInt8) (hl : l.length ≤ 1000000000000000) : Ct Try.prog 34 [.string (str l)] [] fun v H' => v = openV l ∧ H' = [] := by
  by_cases hs : l.length < 11
  · have hE : openE l = 3 := by unfold openE; rw [if_pos hs]
    have hV : openV l = .tuple #[.int .i64 0, .int .i64 0, .string (str []), .int .i64 3] := by unfold openV; rw [hE]; rfl
    rw [hV]
    (refine spec_enter Try.func34 Try.ntmps34 rfl rfl fun Fr => ?_; dsimp only [List.cons_append, List.nil_append, ini, Nat.reduceAdd])
    (repeat' (first | (apply run_qg 1; (focus rfl); (focus exact wt); (focus rfl); (focus (exact qg1))) | (apply run_qg 4; (focus rfl); (focus exact wt); (focus rfl); (focus (first | exact qg4 | exact qs4))) | (apply run_qg 6; (focus rfl); (focus exact wt); (focus rfl); (focus (first | exact qs6 | exact qg6 | exact q_max rfl rfl rfl | exact q_sliceData rfl rfl (by omega) | exact q_sliceDataN rfl rfl | exact q_unsafeStringN rfl rfl rfl | exact q_cap_slice rfl rfl))) | refine cod_seq ?_ | refine cod_region ?_ | refine run_nil ?_ | refine pst_then ?_ | (apply cod_cond_t; (focus rfl)) | refine cod_ret ?_ | refine pst_then_ret ?_))
    exact pst_fin rfl (by exact resa) _ (⟨rfl, rfl⟩) (by exact hsa)
  · by_cases hb : 1011 < l.length
    · have hE : openE l = 2 := by unfold openE; rw [if_neg hs, if_pos hb]
      have hV : openV l = .tuple #[.int .i64 0, .int .i64 0, .string (str []), .int .i64 2] := by unfold openV; rw [hE]; rfl
      rw [hV]
      (refine spec_enter Try.func34 Try.ntmps34 rfl rfl fun Fr => ?_; dsimp only [List.cons_append, List.nil_append, ini, Nat.reduceAdd])
      (repeat' (first | (apply run_qg 1; (focus rfl); (focus exact wt); (focus rfl); (focus (exact qg1))) | (apply run_qg 4; (focus rfl); (focus exact wt); (focus rfl); (focus (first | exact qg4 | exact qs4))) | (apply run_qg 6; (focus rfl); (focus exact wt); (focus rfl); (focus (first | exact qs6 | exact qg6 | exact q_max rfl rfl rfl | exact q_sliceData rfl rfl (by omega) | exact q_sliceDataN rfl rfl | exact q_unsafeStringN rfl rfl rfl | exact q_cap_slice rfl rfl))) | refine cod_seq ?_ | refine cod_region ?_ | refine run_nil ?_ | refine pst_then ?_ | (apply cod_cond_t; (focus rfl)) | (apply cod_cond_f; (focus rfl)) | refine cod_ret ?_ | refine cod_skip ?_ | refine pst_then_ret ?_))
      exact pst_fin rfl (by exact resa) _ (⟨rfl, rfl⟩) (by exact hsa)
    · obtain ⟨m, hm⟩ : ∃ m, l.length = m + 4 := ⟨l.length - 4, by omega⟩
      have hm2 : l.length - 4 = m := by omega
      have hmI : (l.length : Int) - 4 = (m : Int) := by omega
      have SM := sum_ct (l.take m) (by rw [List.length_take]; omega)
      have hsb := sumB_bd (l.take m)
      by_cases hd : l.drop m = four (sumB (l.take m))
      · have hdb : (l.drop m == four (sumB (l.take m))) = true := by rw [hd]; simp
        obtain ⟨b0, hb0⟩ : ∃ b0, l[0]? = some b0 := ⟨_, List.getElem?_eq_getElem (by omega)⟩
        have hg : l.getD 0 0 = b0 := by rw [List.getD_eq_getElem?_getD, hb0]; rfl
        have U1 := unfix_ct (cutB l 1 5) (by unfold cutB; rw [List.length_take]; omega)
        have U2 := unfix_ct (cutB l 5 7) (by unfold cutB; rw [List.length_take]; omega)
        have u1 : unfixN (cutB l 1 5) < 4294967296 := by
          have := unfixN_lt (cutB l 1 5)
          have h2 : (cutB l 1 5).length = 4 := by unfold cutB; rw [List.length_take, List.length_drop]; omega
          rwa [h2] at this
        have u2 : unfixN (cutB l 5 7) < 65536 := by
          have := unfixN_lt (cutB l 5 7)
          have h2 : (cutB l 5 7).length = 2 := by unfold cutB; rw [List.length_take, List.length_drop]; omega
          rwa [h2] at this
        have FT := fit_any (b0.toNat : Int) (unfixN (cutB l 1 5) : Int) (cutB l 7 m)
        have hbt := b0.toNat_lt
        have hN : openN l = (unfixN (cutB l 1 5) : Int) := rfl
        have hK : openK l = (b0.toNat : Int) := by unfold openK; rw [hg]
        have hB : openB l = cutB l 7 m := by unfold openB; rw [hm2]
        have hE : openE l = if (unfixN (cutB l 5 7) : Int) ≠ (m : Int) - 7 ∨ sealE (b0.toNat : Int) (unfixN (cutB l 1 5) : Int) (cutB l 7 m).length ≠ 0 then 4 else 0 := by
          unfold openE
          rw [if_neg hs, if_neg hb, hm2, if_neg (by rw [hd]; simp), hg]
        generalize unfixN (cutB l 1 5) = n1 at *
        generalize unfixN (cutB l 5 7) = n2 at *
        by_cases h7 : (n2 : Int) = (m : Int) - 7
        · by_cases h8 : sealE (b0.toNat : Int) (n1 : Int) (cutB l 7 m).length = 0
          · have hV : openV l = .tuple #[.int .i64 (b0.toNat : Int), .int .i64 (n1 : Int), .string (str (cutB l 7 m)), .int .i64 0] := by
              rw [if_neg (by rw [h8, h7]; simp)] at hE
              unfold openV
              rw [hE, if_pos rfl, hK, hN, hB]
            rw [hV]
            rw [h8] at FT
            clear hV hE hK hN hB hg h8 hm2
            (refine spec_enter Try.func34 Try.ntmps34 rfl rfl fun Fr => ?_; dsimp only [List.cons_append, List.nil_append, ini, Nat.reduceAdd])
            (repeat' (first | (apply run_qg 1; (focus rfl); (focus exact wt); (focus rfl); (focus (exact qg1))) | (apply run_qg 4; (focus rfl); (focus exact wt); (focus rfl); (focus (first | exact qg4 | exact qs4))) | (apply run_qg 6; (focus rfl); (focus exact wt); (focus rfl); (focus (first | exact qs6 | exact qg6 | exact q_max rfl rfl rfl | exact q_sliceData rfl rfl (by omega) | exact q_sliceDataN rfl rfl | exact q_unsafeStringN rfl rfl rfl | exact q_cap_slice rfl rfl))) | (apply run_qg 12; (focus rfl); (focus exact wt); (focus rfl); (focus (first | exact qs12 | exact q_cutp rfl rfl rfl rfl (by omega) (by omega) | exact q_slice_cap rfl rfl rfl rfl (by omega)))) | refine cod_seq ?_ | refine cod_region ?_ | refine run_nil ?_ | refine pst_then ?_ | (apply cod_cond_f; (focus rfl)) | refine cod_ret ?_ | refine cod_skip ?_ | (apply run_osg 7; (focus rfl); (focus exact wt); (focus rfl); (focus (exact opr_call_ls (by rfl) (SM ..) (by rfl) lpa)); (rintro _ _ ⟨rfl, rfl⟩)) | (apply run_osg 7; (focus rfl); (focus exact wt); (focus rfl); (focus (exact opr_call_ls (by rfl) (U1 ..) (by rfl) lpa)); (rintro _ _ ⟨rfl, rfl⟩)) | (apply run_osg 7; (focus rfl); (focus exact wt); (focus rfl); (focus (exact opr_call_ls (by rfl) (U2 ..) (by rfl) lpa)); (rintro _ _ ⟨rfl, rfl⟩)) | (apply cod_drawn_k; (focus kernel_rfl); (focus (simp only [List.length_cons, List.length_nil, Nat.reduceAdd]; rfl))) | (apply drnK_take 1; (focus rfl); (focus rfl); (focus exact wt); (focus (decide +kernel)); (focus exact hsq); (focus rfl); (focus (exact qg1))) | (apply drnK_take 3; (focus rfl); (focus rfl); (focus exact wt); (focus (decide +kernel)); (focus exact hsq); (focus rfl); (focus (first | exact qg3 | exact qs3))) | (apply drnK_take 4; (focus rfl); (focus rfl); (focus exact wt); (focus (decide +kernel)); (focus exact hsq); (focus rfl); (focus (first | exact qg4 | exact qs4))) | (apply drnK_take 11; (focus rfl); (focus rfl); (focus exact wt); (focus (decide +kernel)); (focus exact hsq); (focus rfl); (focus (exact qs11))) | (apply drnK_take 12; (focus rfl); (focus rfl); (focus exact wt); (focus (decide +kernel)); (focus exact hsq); (focus rfl); (focus (first | exact qs12 | exact q_cutp rfl rfl rfl rfl (by omega) (by omega) | exact q_slice_cap rfl rfl rfl rfl (by omega)))) | (apply drnK_ones 10; (focus rfl); (focus rfl); (focus (decide +kernel)); (focus exact wt); (focus rfl); (focus (exact opr_buildSlice rfl rfl rfl (by exact blda) rfl rfl (by decide) rfl)); (rintro _ _ ⟨q, rfl, rfl⟩; refine ⟨(by first | exact fun h => absurd h (by decide) | exact fun _ => hsq), ?_⟩; (try refine drnK_more hsq ?_))) | (apply drnK_end; (focus (decide +kernel))) | (apply drnK_ones 7; (focus rfl); (focus rfl); (focus (decide +kernel)); (focus exact wt); (focus rfl); (focus (exact opr_call_ls (by rfl) (FT ..) (by rfl) lpa)); (rintro _ _ ⟨rfl, rfl⟩; refine ⟨(by first | exact fun h => absurd h (by decide) | exact fun _ => hsq), ?_⟩))))
            exact pst_fin rfl (by exact resa) _ (⟨rfl, rfl⟩) (by exact hsa)
          · have hV : openV l = .tuple #[.int .i64 0, .int .i64 0, .string (str []), .int .i64 4] := by
              rw [if_pos (.inr h8)] at hE
              unfold openV
              rw [hE]
              rfl
            rw [hV]
            clear hV hE hK hN hB hg hm2
            generalize sealE (b0.toNat : Int) (n1 : Int) (cutB l 7 m).length = z at *
            (refine spec_enter Try.func34 Try.ntmps34 rfl rfl fun Fr => ?_; dsimp only [List.cons_append, List.nil_append, ini, Nat.reduceAdd])
            (repeat' (first | (apply run_qg 1; (focus rfl); (focus exact wt); (focus rfl); (focus (exact qg1))) | (apply run_qg 4; (focus rfl); (focus exact wt); (focus rfl); (focus (first | exact qg4 | exact qs4))) | (apply run_qg 6; (focus rfl); (focus exact wt); (focus rfl); (focus (first | exact qs6 | exact qg6 | exact q_max rfl rfl rfl | exact q_sliceData rfl rfl (by omega) | exact q_sliceDataN rfl rfl | exact q_unsafeStringN rfl rfl rfl | exact q_cap_slice rfl rfl))) | (apply run_qg 12; (focus rfl); (focus exact wt); (focus rfl); (focus (first | exact qs12 | exact q_cutp rfl rfl rfl rfl (by omega) (by omega) | exact q_slice_cap rfl rfl rfl rfl (by omega)))) | refine cod_seq ?_ | refine cod_region ?_ | refine run_nil ?_ | refine pst_then ?_ | (apply cod_cond_t; (focus rfl)) | (apply cod_cond_f; (focus rfl)) | refine cod_ret ?_ | refine cod_skip ?_ | refine pst_then_ret ?_ | (apply run_osg 7; (focus rfl); (focus exact wt); (focus rfl); (focus (exact opr_call_ls (by rfl) (SM ..) (by rfl) lpa)); (rintro _ _ ⟨rfl, rfl⟩)) | (apply run_osg 7; (focus rfl); (focus exact wt); (focus rfl); (focus (exact opr_call_ls (by rfl) (U1 ..) (by rfl) lpa)); (rintro _ _ ⟨rfl, rfl⟩)) | (apply run_osg 7; (focus rfl); (focus exact wt); (focus rfl); (focus (exact opr_call_ls (by rfl) (U2 ..) (by rfl) lpa)); (rintro _ _ ⟨rfl, rfl⟩)) | (apply cod_drawn_k; (focus kernel_rfl); (focus (simp only [List.length_cons, List.length_nil, Nat.reduceAdd]; rfl))) | (apply drnK_take 1; (focus rfl); (focus rfl); (focus exact wt); (focus (decide +kernel)); (focus exact hsq); (focus rfl); (focus (exact qg1))) | (apply drnK_take 3; (focus rfl); (focus rfl); (focus exact wt); (focus (decide +kernel)); (focus exact hsq); (focus rfl); (focus (first | exact qg3 | exact qs3))) | (apply drnK_take 4; (focus rfl); (focus rfl); (focus exact wt); (focus (decide +kernel)); (focus exact hsq); (focus rfl); (focus (first | exact qg4 | exact qs4))) | (apply drnK_take 11; (focus rfl); (focus rfl); (focus exact wt); (focus (decide +kernel)); (focus exact hsq); (focus rfl); (focus (exact qs11))) | (apply drnK_take 12; (focus rfl); (focus rfl); (focus exact wt); (focus (decide +kernel)); (focus exact hsq); (focus rfl); (focus (first | exact qs12 | exact q_cutp rfl rfl rfl rfl (by omega) (by omega) | exact q_slice_cap rfl rfl rfl rfl (by omega)))) | (apply drnK_ones 10; (focus rfl); (focus rfl); (focus (decide +kernel)); (focus exact wt); (focus rfl); (focus (exact opr_buildSlice rfl rfl rfl (by exact blda) rfl rfl (by decide) rfl)); (rintro _ _ ⟨q, rfl, rfl⟩; refine ⟨(by first | exact fun h => absurd h (by decide) | exact fun _ => hsq), ?_⟩; (try refine drnK_more hsq ?_))) | (apply drnK_end; (focus (decide +kernel))) | (apply drnK_ones 7; (focus rfl); (focus rfl); (focus (decide +kernel)); (focus exact wt); (focus rfl); (focus (exact opr_call_ls (by rfl) (FT ..) (by rfl) lpa)); (rintro _ _ ⟨rfl, rfl⟩; refine ⟨(by first | exact fun h => absurd h (by decide) | exact fun _ => hsq), ?_⟩))))
            exact pst_fin rfl (by exact resa) _ (⟨rfl, rfl⟩) (by exact hsa)
        · have hV : openV l = .tuple #[.int .i64 0, .int .i64 0, .string (str []), .int .i64 4] := by
            rw [if_pos (.inl h7)] at hE
            unfold openV
            rw [hE]
            rfl
          rw [hV]
          clear hV hE hK hN hB hg hm2 FT
          (refine spec_enter Try.func34 Try.ntmps34 rfl rfl fun Fr => ?_; dsimp only [List.cons_append, List.nil_append, ini, Nat.reduceAdd])
          (repeat' (first | (apply run_qg 1; (focus rfl); (focus exact wt); (focus rfl); (focus (exact qg1))) | (apply run_qg 4; (focus rfl); (focus exact wt); (focus rfl); (focus (first | exact qg4 | exact qs4))) | (apply run_qg 6; (focus rfl); (focus exact wt); (focus rfl); (focus (first | exact qs6 | exact qg6 | exact q_max rfl rfl rfl | exact q_sliceData rfl rfl (by omega) | exact q_sliceDataN rfl rfl | exact q_unsafeStringN rfl rfl rfl | exact q_cap_slice rfl rfl))) | (apply run_qg 12; (focus rfl); (focus exact wt); (focus rfl); (focus (first | exact qs12 | exact q_cutp rfl rfl rfl rfl (by omega) (by omega) | exact q_slice_cap rfl rfl rfl rfl (by omega)))) | refine cod_seq ?_ | refine cod_region ?_ | refine run_nil ?_ | refine pst_then ?_ | (apply cod_cond_t; (focus rfl)) | (apply cod_cond_f; (focus rfl)) | refine cod_ret ?_ | refine cod_skip ?_ | refine pst_then_ret ?_ | (apply run_osg 7; (focus rfl); (focus exact wt); (focus rfl); (focus (exact opr_call_ls (by rfl) (SM ..) (by rfl) lpa)); (rintro _ _ ⟨rfl, rfl⟩)) | (apply run_osg 7; (focus rfl); (focus exact wt); (focus rfl); (focus (exact opr_call_ls (by rfl) (U1 ..) (by rfl) lpa)); (rintro _ _ ⟨rfl, rfl⟩)) | (apply run_osg 7; (focus rfl); (focus exact wt); (focus rfl); (focus (exact opr_call_ls (by rfl) (U2 ..) (by rfl) lpa)); (rintro _ _ ⟨rfl, rfl⟩)) | (apply cod_drawn_k; (focus kernel_rfl); (focus (simp only [List.length_cons, List.length_nil, Nat.reduceAdd]; rfl))) | (apply drnK_take 1; (focus rfl); (focus rfl); (focus exact wt); (focus (decide +kernel)); (focus exact hsq); (focus rfl); (focus (exact qg1))) | (apply drnK_take 4; (focus rfl); (focus rfl); (focus exact wt); (focus (decide +kernel)); (focus exact hsq); (focus rfl); (focus (first | exact qg4 | exact qs4))) | (apply drnK_take 11; (focus rfl); (focus rfl); (focus exact wt); (focus (decide +kernel)); (focus exact hsq); (focus rfl); (focus (exact qs11))) | (apply drnK_take 12; (focus rfl); (focus rfl); (focus exact wt); (focus (decide +kernel)); (focus exact hsq); (focus rfl); (focus (first | exact qs12 | exact q_cutp rfl rfl rfl rfl (by omega) (by omega) | exact q_slice_cap rfl rfl rfl rfl (by omega)))) | (apply drnK_off; (focus rfl); (focus rfl); (focus rfl); (focus (decide +kernel)); (focus exact hsq); (focus rfl)) | (apply drnK_ones 10; (focus rfl); (focus rfl); (focus (decide +kernel)); (focus exact wt); (focus rfl); (focus (exact opr_buildSlice rfl rfl rfl (by exact blda) rfl rfl (by decide) rfl)); (rintro _ _ ⟨q, rfl, rfl⟩; refine ⟨(by first | exact fun h => absurd h (by decide) | exact fun _ => hsq), ?_⟩; (try refine drnK_more hsq ?_))) | (apply drnK_end; (focus (decide +kernel)))))
          exact pst_fin rfl (by exact resa) _ (⟨rfl, rfl⟩) (by exact hsa)
      · have hdb : (l.drop m == four (sumB (l.take m))) = false := by simpa using hd
        have hE : openE l = 5 := by unfold openE; rw [if_neg hs, if_neg hb, if_pos (by rw [hm2]; exact hd)]
        have hV : openV l = .tuple #[.int .i64 0, .int .i64 0, .string (str []), .int .i64 5] := by unfold openV; rw [hE]; rfl
        rw [hV]
        clear hE hV hm2
        (refine spec_enter Try.func34 Try.ntmps34 rfl rfl fun Fr => ?_; dsimp only [List.cons_append, List.nil_append, ini, Nat.reduceAdd])
        (repeat' (first | (apply run_qg 1; (focus rfl); (focus exact wt); (focus rfl); (focus (exact qg1))) | (apply run_qg 4; (focus rfl); (focus exact wt); (focus rfl); (focus (first | exact qg4 | exact qs4))) | (apply run_qg 6; (focus rfl); (focus exact wt); (focus rfl); (focus (first | exact qs6 | exact qg6 | exact q_max rfl rfl rfl | exact q_sliceData rfl rfl (by omega) | exact q_sliceDataN rfl rfl | exact q_unsafeStringN rfl rfl rfl | exact q_cap_slice rfl rfl))) | (apply run_qg 12; (focus rfl); (focus exact wt); (focus rfl); (focus (first | exact qs12 | exact q_cutp rfl rfl rfl rfl (by omega) (by omega) | exact q_slice_cap rfl rfl rfl rfl (by omega)))) | refine cod_seq ?_ | refine cod_region ?_ | refine run_nil ?_ | refine pst_then ?_ | (apply cod_cond_t; (focus rfl)) | (apply cod_cond_f; (focus rfl)) | refine cod_ret ?_ | refine cod_skip ?_ | refine pst_then_ret ?_ | (apply run_osg 7; (focus rfl); (focus exact wt); (focus rfl); (focus (exact opr_call_ls (by rfl) (SM ..) (by rfl) lpa)); (rintro _ _ ⟨rfl, rfl⟩)) | (apply cod_drawn_k; (focus kernel_rfl); (focus (simp only [List.length_cons, List.length_nil, Nat.reduceAdd]; rfl))) | (apply drnK_take 1; (focus rfl); (focus rfl); (focus exact wt); (focus (decide +kernel)); (focus exact hsq); (focus rfl); (focus (exact qg1))) | (apply drnK_take 4; (focus rfl); (focus rfl); (focus exact wt); (focus (decide +kernel)); (focus exact hsq); (focus rfl); (focus (first | exact qg4 | exact qs4))) | (apply drnK_take 11; (focus rfl); (focus rfl); (focus exact wt); (focus (decide +kernel)); (focus exact hsq); (focus rfl); (focus (exact qs11))) | (apply drnK_take 12; (focus rfl); (focus rfl); (focus exact wt); (focus (decide +kernel)); (focus exact hsq); (focus rfl); (focus (first | exact qs12 | exact q_cutp rfl rfl rfl rfl (by omega) (by omega) | exact q_slice_cap rfl rfl rfl rfl (by omega)))) | (apply drnK_ones 10; (focus rfl); (focus rfl); (focus (decide +kernel)); (focus exact wt); (focus rfl); (focus (exact opr_buildSlice rfl rfl rfl (by exact blda) rfl rfl (by decide) rfl)); (rintro _ _ ⟨q, rfl, rfl⟩; refine ⟨(by first | exact fun h => absurd h (by decide) | exact fun _ => hsq), ?_⟩; (try refine drnK_more hsq ?_))) | (apply drnK_end; (focus (decide +kernel)))))
        exact pst_fin rfl (by exact resa) _ (⟨rfl, rfl⟩) (by exact hsa)
end Go.Proofs.Ytcbpeampjhegcaa.seal
