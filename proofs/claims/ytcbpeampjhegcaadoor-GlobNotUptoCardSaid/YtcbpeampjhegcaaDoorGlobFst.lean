/-
  linenref.first, linenref.Signs: the plain law and the walks.
-/
import Derived.Test.YtcbpeampjhegcaaDoorGlobQuo
namespace Go.Proofs.YtcbpeampjhegcaaDoor.glob
open Go.RowKit kit sl
set_option linter.unusedVariables false
def accF : Nat → List UInt8 → Option Nat
  | v, [] => some v
  | v, c :: l => if c.toNat < 128 ∨ 191 < c.toNat then none else accF (v * 64 + c.toNat % 64) l
def clsV (x : Nat) : Nat × Nat × Nat := if 194 ≤ x ∧ x < 224 then (2, 128, x % 32) else if 224 ≤ x ∧ x < 240 then (3, 2048, x % 16) else if 240 ≤ x ∧ x < 245 then (4, 65536, x % 8) else (0, 0, 0)
def badV (low v : Nat) : Prop := v < low ∨ 1114111 < v ∨ (55296 ≤ v ∧ v < 57344)
instance (low v : Nat) : Decidable (badV low v) := by unfold badV; infer_instance
def restF (n low : Nat) : Option Nat → Nat × Nat
  | none => (0, 0)
  | some v => if badV low v then (0, 0) else (v, n)
def firstP (b : UInt8) (t : List UInt8) : Nat × Nat :=
  if b.toNat < 128 then (b.toNat, 1) else
  if (clsV b.toNat).1 = 0 ∨ t.length + 1 < (clsV b.toNat).1 then (0, 0) else restF (clsV b.toNat).1 (clsV b.toNat).2.1 (accF (clsV b.toNat).2.2 (t.take ((clsV b.toNat).1 - 1)))
def noN (D : Nat × Nat) : Nat × Nat := if D = (65533, 1) then (0, 0) else D
theorem noN_no : noN (65533, 1) = (0, 0) := rfl
theorem noN_yes {v n : Nat} (h : n ≠ 1 ∨ v < 128) : noN (v, n) = (v, n) := by
  unfold noN
  rw [if_neg]
  intro e
  obtain ⟨h1, h2⟩ := Prod.mk.inj e
  omega
theorem first_dec (b : UInt8) (t : List UInt8) : firstP b t = noN (decL (b :: t)) := by
  have hb := b.toNat_lt
  rw [decL_is]
  unfold firstP Lib.decodeN
  generalize b.toNat = x at *
  by_cases h0 : x < 128
  · rw [if_pos h0, if_pos h0, noN_yes (.inr h0)]
  · rw [if_neg h0, if_neg h0]
    unfold clsV
    by_cases hA : 194 ≤ x ∧ x < 224
    · rw [if_pos hA]
      match t with
      | [] =>
        rw [if_pos (.inr (by simp only [List.length_nil]; omega))]
        rw [if_neg (by simp), if_neg (by simp), if_neg (by simp)]
        exact noN_no.symm
      | c1 :: t =>
        have h1 := c1.toNat_lt
        rw [if_neg (by simp only [List.length_cons]; omega)]
        simp only [List.getD_cons_zero, List.getD_cons_succ]
        show restF 2 128 (accF (x % 32) [c1]) = _
        rw [accF]
        by_cases hc : c1.toNat < 128 ∨ 191 < c1.toNat
        · rw [if_pos hc, if_neg (by omega), if_neg (by omega), if_neg (by omega)]
          exact noN_no.symm
        · rw [if_neg hc, if_pos ⟨by omega, by simp, by omega⟩, if_pos (by omega), accF, noN_yes (.inl (by decide))]
          show (if badV 128 _ then _ else _) = _
          rw [if_neg (by unfold badV; omega)]
    · rw [if_neg hA]
      by_cases hB : 224 ≤ x ∧ x < 240
      · rw [if_pos hB]
        match t with
        | [] =>
          rw [if_pos (.inr (by simp only [List.length_nil]; omega))]
          rw [if_neg (by simp), if_neg (by simp), if_neg (by simp)]
          exact noN_no.symm
        | [c1] =>
          rw [if_pos (.inr (by simp only [List.length_cons, List.length_nil]; omega))]
          rw [if_neg (by omega), if_neg (by simp), if_neg (by simp)]
          exact noN_no.symm
        | c1 :: c2 :: t =>
          have h1 := c1.toNat_lt
          have h2 := c2.toNat_lt
          rw [if_neg (by simp only [List.length_cons]; omega)]
          simp only [List.getD_cons_zero, List.getD_cons_succ]
          show restF 3 2048 (accF (x % 16) [c1, c2]) = _
          rw [accF]
          by_cases hc : c1.toNat < 128 ∨ 191 < c1.toNat
          · rw [if_pos hc, if_neg (by omega), if_neg (by omega), if_neg (by omega)]
            exact noN_no.symm
          · rw [if_neg hc, accF]
            by_cases hd : c2.toNat < 128 ∨ 191 < c2.toNat
            · rw [if_pos hd, if_neg (by omega), if_neg (by omega), if_neg (by omega)]
              exact noN_no.symm
            · rw [if_neg hd, accF, if_neg (by omega), if_pos ⟨by omega, ⟨by simp, by omega⟩, by simp, by omega⟩]
              have e : (x % 16 * 64 + c1.toNat % 64) * 64 + c2.toNat % 64 = x % 16 * 4096 + c1.toNat % 64 * 64 + c2.toNat % 64 := by omega
              rw [e]
              obtain ⟨v, hv0⟩ : ∃ v, x % 16 * 4096 + c1.toNat % 64 * 64 + c2.toNat % 64 = v := ⟨_, rfl⟩
              rw [hv0]
              have hv : v < 65536 := by omega
              show (if badV 2048 v then _ else _) = _
              by_cases hv2 : badV 2048 v
              · rw [if_pos hv2, if_neg (by unfold badV at hv2; omega), noN_no]
              · rw [if_neg hv2, if_pos (by unfold badV at hv2; omega), noN_yes (.inl (by decide))]
      · rw [if_neg hB]
        by_cases hC : 240 ≤ x ∧ x < 245
        · rw [if_pos hC]
          match t with
          | [] =>
            rw [if_pos (.inr (by simp only [List.length_nil]; omega))]
            rw [if_neg (by simp), if_neg (by simp), if_neg (by simp)]
            exact noN_no.symm
          | [c1] =>
            rw [if_pos (.inr (by simp only [List.length_cons, List.length_nil]; omega))]
            rw [if_neg (by omega), if_neg (by simp), if_neg (by simp)]
            exact noN_no.symm
          | [c1, c2] =>
            rw [if_pos (.inr (by simp only [List.length_cons, List.length_nil]; omega))]
            rw [if_neg (by omega), if_neg (by omega), if_neg (by simp)]
            exact noN_no.symm
          | c1 :: c2 :: c3 :: t =>
            have h1 := c1.toNat_lt
            have h2 := c2.toNat_lt
            have h3 := c3.toNat_lt
            rw [if_neg (by simp only [List.length_cons]; omega)]
            simp only [List.getD_cons_zero, List.getD_cons_succ]
            show restF 4 65536 (accF (x % 8) [c1, c2, c3]) = _
            rw [accF]
            by_cases hc : c1.toNat < 128 ∨ 191 < c1.toNat
            · rw [if_pos hc, if_neg (by omega), if_neg (by omega), if_neg (by omega)]
              exact noN_no.symm
            · rw [if_neg hc, accF]
              by_cases hd : c2.toNat < 128 ∨ 191 < c2.toNat
              · rw [if_pos hd, if_neg (by omega), if_neg (by omega), if_neg (by omega)]
                exact noN_no.symm
              · rw [if_neg hd, accF]
                by_cases he : c3.toNat < 128 ∨ 191 < c3.toNat
                · rw [if_pos he, if_neg (by omega), if_neg (by omega), if_neg (by omega)]
                  exact noN_no.symm
                · rw [if_neg he, accF, if_neg (by omega), if_neg (by omega), if_pos ⟨by omega, ⟨by simp, by omega⟩, ⟨by simp, by omega⟩, by simp, by omega⟩]
                  have e : ((x % 8 * 64 + c1.toNat % 64) * 64 + c2.toNat % 64) * 64 + c3.toNat % 64 = x % 8 * 262144 + c1.toNat % 64 * 4096 + c2.toNat % 64 * 64 + c3.toNat % 64 := by omega
                  rw [e]
                  obtain ⟨v, hv0⟩ : ∃ v, x % 8 * 262144 + c1.toNat % 64 * 4096 + c2.toNat % 64 * 64 + c3.toNat % 64 = v := ⟨_, rfl⟩
                  rw [hv0]
                  show (if badV 65536 v then _ else _) = _
                  by_cases hv2 : badV 65536 v
                  · rw [if_pos hv2, if_neg (by unfold badV at hv2; omega), noN_no]
                  · rw [if_neg hv2, if_pos (by unfold badV at hv2; omega), noN_yes (.inl (by decide))]
        · rw [if_neg hC, if_pos (.inl rfl)]
          have g1 := (t.getD 0 0).toNat_lt
          have g2 := (t.getD 1 0).toNat_lt
          have g3 := (t.getD 2 0).toNat_lt
          by_cases k1 : x / 32 = 6 ∧ (1 < t.length + 1 ∧ (t.getD 0 0).toNat / 64 = 2)
          · rw [if_pos k1, if_neg (by omega)]
            exact noN_no.symm
          · rw [if_neg k1, if_neg (by omega)]
            by_cases k3 : x / 8 = 30 ∧ (1 < t.length + 1 ∧ (t.getD 0 0).toNat / 64 = 2) ∧ (2 < t.length + 1 ∧ (t.getD 1 0).toNat / 64 = 2) ∧ (3 < t.length + 1 ∧ (t.getD 2 0).toNat / 64 = 2)
            · rw [if_pos k3, if_neg (by omega)]
              exact noN_no.symm
            · rw [if_neg k3]
              exact noN_no.symm
theorem enc_one (v : Nat) : (encN v).length ≠ 1 ∨ v < 128 := by
  by_cases h : v < 128
  · exact .inr h
  · left
    unfold encN
    rw [if_neg h]
    repeat' split
    all_goals simp
theorem sig_step2 (b : UInt8) (t : List UInt8) : (firstP b t = (0, 0) ∧ sigs (b :: t) = (1114112 + b.toNat) :: sigs t ∧ (encS (1114112 + b.toNat)).length = 1) ∨ ∃ v n, firstP b t = (v, n) ∧ (1 ≤ n ∧ n ≤ (b :: t).length) ∧ v < 1114112 ∧ sigs (b :: t) = v :: sigs ((b :: t).drop n) ∧ (encS v).length = n := by
  rw [first_dec]
  rcases dec_cases b t with ⟨v, r, hb, hd⟩ | ⟨hd, hn⟩
  · obtain ⟨e1, e2⟩ := sgn_code hb
    have h1 := enc_long v
    obtain ⟨hv, a, ha, he⟩ := hb
    have hl := nn_len he
    rw [hd, noN_yes (enc_one v)]
    refine .inr ⟨v, (encN v).length, rfl, ⟨h1.1, by rw [ha, List.length_append]; omega⟩, by unfold okV at hv; omega, ?_, by rw [encS_code hv he, hl]⟩
    rw [e2]
    have := Sig.code hv he (sig_sigs r)
    rw [← ha] at this
    exact sig_eq this
  · rw [hd]
    exact .inl ⟨rfl, sig_eq (.stray hn (sig_sigs t)), by rw [encS_stray]; rfl⟩
theorem take_succ_drop {l : List UInt8} {n i : Nat} {c : UInt8} (h : l[i]? = some c) (hi : i < n) : (l.take n).drop i = c :: (l.take n).drop (i + 1) := by
  have h2 : (l.take n)[i]? = some c := by rw [List.getElem?_take, if_pos hi, h]
  obtain ⟨h3, h4⟩ := List.getElem?_eq_some_iff.1 h2
  rw [List.drop_eq_getElem_cons h3, h4]
def fN (x : Nat) : List Value := [.int .i64 (x : Int)]
theorem one_fN (x : Nat) : ∀ u ∈ fN x, u.oneCell' = true := by simp [fN, Value.oneCell']
attribute [local irreducible] box own sl old bptr eptr Qt Opr Run Cod Pst Drn
attribute [local irreducible] accF firstP cmpB

set_option maxRecDepth 100000 in
set_option maxHeartbeats 8000000 in
theorem first_two (b : UInt8) (ct : List UInt8) (hs : ct.length ≤ 140737488351232) (hb0 : ct[0]? = some b) (hx : 194 ≤ b.toNat ∧ b.toNat < 224) {R : Nat × Nat} (hR : (if ct.length < 2 then (0, 0) else restF 2 128 (accF (b.toNat % 32) ((ct.take 2).drop 1))) = R) :
    Ct Tryd.prog 14 [.string (str ct)] [] fun v H' => v = .tuple #[.int .i64 (R.1 : Int), .int .i64 (R.2 : Int)] ∧ H' = [] := by
  have hb8 := b.toNat_lt
  by_cases hl : ct.length < 2
  · rw [if_pos hl] at hR
    subst hR
    (refine spec_enter Tryd.func14 Tryd.ntmps14 rfl rfl fun Fr => ?_; dsimp only [List.cons_append, List.nil_append, ini, Nat.reduceAdd])
    (repeat' (first | (apply run_qg 1; (focus rfl); (focus exact wt); (focus rfl); (focus (exact qg1))) | (apply run_qg 3; (focus rfl); (focus exact wt); (focus rfl); (focus (first | exact qg3 | exact qs3))) | (apply run_qg 4; (focus rfl); (focus exact wt); (focus rfl); (focus (first | exact qg4 | exact qs4))) | (apply run_qg 6; (focus rfl); (focus exact wt); (focus rfl); (focus (first | exact qs6 | exact qg6 | exact q_max rfl rfl rfl | exact q_sliceData rfl rfl (by omega) | exact q_sliceDataN rfl rfl | exact q_unsafeStringN rfl rfl rfl | exact q_cap_slice rfl rfl))) | (apply run_qg 11; (focus rfl); (focus exact wt); (focus rfl); (focus (exact qs11))) | refine cod_seq ?_ | refine cod_region ?_ | refine run_nil ?_ | refine pst_then ?_ | (apply cod_cond_t; (focus rfl)) | (apply cod_cond_f; (focus rfl)) | refine cod_block ?_ | refine cod_ret ?_ | refine pst_then_ret ?_ | refine pst_block ?_))
    exact pst_fin rfl (by exact resa) _ (⟨rfl, rfl⟩) (by exact hsa)
  · rw [if_neg hl] at hR
    have hm0 : b.toNat % 32 < 32 := Nat.mod_lt _ (by decide)
    have hmc : (b.toNat : Int) % 32 = ((b.toNat % 32 : Nat) : Int) := by omega
    (refine spec_enter Tryd.func14 Tryd.ntmps14 rfl rfl fun Fr => ?_; dsimp only [List.cons_append, List.nil_append, ini, Nat.reduceAdd])
    (repeat' (first | (apply run_qg 1; (focus rfl); (focus exact wt); (focus rfl); (focus (exact qg1))) | (apply run_qg 3; (focus rfl); (focus exact wt); (focus rfl); (focus (first | exact qg3 | exact qs3))) | (apply run_qg 4; (focus rfl); (focus exact wt); (focus rfl); (focus (first | exact qg4 | exact qs4))) | (apply run_qg 6; (focus rfl); (focus exact wt); (focus rfl); (focus (first | exact qs6 | exact qg6 | exact q_max rfl rfl rfl | exact q_sliceData rfl rfl (by omega) | exact q_sliceDataN rfl rfl | exact q_unsafeStringN rfl rfl rfl | exact q_cap_slice rfl rfl))) | (apply run_qg 11; (focus rfl); (focus exact wt); (focus rfl); (focus (exact qs11))) | refine cod_seq ?_ | refine cod_region ?_ | refine run_nil ?_ | refine pst_then ?_ | (apply cod_cond_t; (focus rfl)) | (apply cod_cond_f; (focus rfl)) | refine cod_block ?_ | refine cod_skip ?_ | refine pst_block ?_))
    (refine cod_loop_ro (σ := Nat × Nat) (fun x => (1 ≤ x.1 ∧ x.1 ≤ 2) ∧ x.2 < 32 * 64 ^ (x.1 - 1) ∧ restF 2 128 (accF x.2 ((ct.take 2).drop x.1)) = R) (fun x => [(8, .int .i64 (x.1 : Int)), (7, .int .i64 (x.2 : Int))]) (fun x => 2 - x.1) ((1, b.toNat % 32)) (by exact ⟨⟨Nat.le_refl _, by dsimp only; omega⟩, by simpa using hm0, hR⟩) (by exact fsa) (fun ⟨i, v⟩ ⟨⟨hi1, hi2⟩, hv, hA⟩ => ?_); dsimp only [List.cons_append, List.nil_append])
    clear hR hm0 hmc
    dsimp only at hi1 hi2 hv hA
    have hv2 : v < 2097152 * 64 := Nat.lt_of_lt_of_le hv (Nat.le_trans (Nat.mul_le_mul_left _ (Nat.pow_le_pow_right (by decide) (by omega : i - 1 ≤ 3))) (by decide))
    rcases Nat.lt_or_ge i 2 with hlt | hge
    · obtain ⟨c, hc⟩ : ∃ c, ct[i]? = some c := ⟨_, List.getElem?_eq_getElem (by omega)⟩
      have hc8 := c.toNat_lt
      rw [take_succ_drop hc hlt, accF] at hA
      by_cases hbad : c.toNat < 128 ∨ 191 < c.toNat
      · rw [if_pos hbad] at hA
        subst hA
        clear hv
        rcases hbad with hbad | hbad
        · (repeat' (first | (apply run_qg 1; (focus rfl); (focus exact wt); (focus rfl); (focus (exact qg1))) | (apply run_qg 3; (focus rfl); (focus exact wt); (focus rfl); (focus (first | exact qg3 | exact qs3))) | (apply run_qg 4; (focus rfl); (focus exact wt); (focus rfl); (focus (first | exact qg4 | exact qs4))) | refine cod_seq ?_ | refine cod_region ?_ | refine run_nil ?_ | refine pst_then ?_ | (apply cod_cond_t; (focus rfl)) | refine cod_block ?_ | refine cod_ret ?_ | refine cod_skip ?_ | refine pst_block_ret ?_ | refine pst_then_ret ?_ | (apply run_offs; (focus rfl); (focus rfl); (focus rfl))))
          exact pst_fin rfl (by exact resa) _ (⟨rfl, rfl⟩) (by exact hsa)
        · have hbad2 : ¬ c.toNat < 128 := by omega
          (repeat' (first | (apply run_qg 1; (focus rfl); (focus exact wt); (focus rfl); (focus (exact qg1))) | (apply run_qg 3; (focus rfl); (focus exact wt); (focus rfl); (focus (first | exact qg3 | exact qs3))) | (apply run_qg 4; (focus rfl); (focus exact wt); (focus rfl); (focus (first | exact qg4 | exact qs4))) | refine cod_seq ?_ | refine cod_region ?_ | refine run_nil ?_ | refine pst_then ?_ | (apply cod_cond_t; (focus rfl)) | refine cod_block ?_ | refine cod_ret ?_ | refine cod_skip ?_ | refine pst_block_ret ?_ | refine pst_then_ret ?_))
          exact pst_fin rfl (by exact resa) _ (⟨rfl, rfl⟩) (by exact hsa)
      · rw [if_neg hbad] at hA
        have hvn : v * 64 + c.toNat % 64 < 32 * 64 ^ (i + 1 - 1) := by
          rw [show i + 1 - 1 = (i - 1) + 1 by omega, Nat.pow_succ]
          generalize 64 ^ (i - 1) = p at hv ⊢
          omega
        have hcm : (c.toNat : Int) % 64 = ((c.toNat % 64 : Nat) : Int) := by omega
        have hvc : (v : Int) * 64 + (c.toNat : Int) % 64 = ((v * 64 + c.toNat % 64 : Nat) : Int) := by push_cast; rfl
        clear hv
        (repeat' (first | (apply run_qg 1; (focus rfl); (focus exact wt); (focus rfl); (focus (exact qg1))) | (apply run_qg 3; (focus rfl); (focus exact wt); (focus rfl); (focus (first | exact qg3 | exact qs3))) | (apply run_qg 4; (focus rfl); (focus exact wt); (focus rfl); (focus (first | exact qg4 | exact qs4))) | (apply run_qg 11; (focus rfl); (focus exact wt); (focus rfl); (focus (exact qs11))) | refine cod_seq ?_ | refine cod_region ?_ | refine run_nil ?_ | refine pst_then ?_ | (apply cod_cond_t; (focus rfl)) | (apply cod_cond_f; (focus rfl)) | refine cod_block ?_ | refine cod_skip ?_ | refine pst_block ?_))
        rw [hvc]
        refine pst_again ((i + 1, v * 64 + c.toNat % 64)) ?_ (FSub.of (by (try dsimp only); exact fsa)) (by (try dsimp only); exact hsa) ?_
        · exact ⟨⟨by dsimp only; omega, hlt⟩, hvn, hA⟩
        · dsimp only; omega
    · have hil : i = 2 := by omega
      subst hil
      have hd : (ct.take 2).drop 2 = [] := List.drop_of_length_le (by rw [List.length_take]; omega)
      rw [hd, accF] at hA
      clear hd hv
      have hA : (if badV 128 v then (0, 0) else (v, 2)) = R := hA
      by_cases hb : badV 128 v
      · rw [if_pos hb] at hA
        subst hA
        unfold badV at hb
        rcases hb with hb | hb | hb
        · (repeat' (first | (apply run_qg 1; (focus rfl); (focus exact wt); (focus rfl); (focus (exact qg1))) | (apply run_qg 4; (focus rfl); (focus exact wt); (focus rfl); (focus (first | exact qg4 | exact qs4))) | refine cod_seq ?_ | refine cod_region ?_ | refine run_nil ?_ | refine pst_then ?_ | (apply cod_cond_t; (focus rfl)) | (apply cod_cond_f; (focus rfl)) | refine cod_exit ?_ | refine cod_ret ?_ | refine pst_block_here ?_ | refine pst_then_exit ?_ | refine pst_then_ret ?_ | (apply run_offs; (focus rfl); (focus rfl); (focus rfl)) | (apply run_offus; (focus rfl); (focus rfl); (focus rfl))))
          exact pst_fin rfl (by exact resa) _ (⟨rfl, rfl⟩) (by exact hsa)
        · have hb1 : ¬ v < 128 := by omega
          (repeat' (first | (apply run_qg 1; (focus rfl); (focus exact wt); (focus rfl); (focus (exact qg1))) | (apply run_qg 4; (focus rfl); (focus exact wt); (focus rfl); (focus (first | exact qg4 | exact qs4))) | refine cod_seq ?_ | refine cod_region ?_ | refine run_nil ?_ | refine pst_then ?_ | (apply cod_cond_t; (focus rfl)) | (apply cod_cond_f; (focus rfl)) | refine cod_exit ?_ | refine cod_ret ?_ | refine pst_block_here ?_ | refine pst_then_exit ?_ | refine pst_then_ret ?_ | (apply run_offs; (focus rfl); (focus rfl); (focus rfl)) | (apply run_offus; (focus rfl); (focus rfl); (focus rfl))))
          exact pst_fin rfl (by exact resa) _ (⟨rfl, rfl⟩) (by exact hsa)
        · have hb1 : ¬ v < 128 ∧ ¬ 1114111 < v := by omega
          (repeat' (first | (apply run_qg 1; (focus rfl); (focus exact wt); (focus rfl); (focus (exact qg1))) | (apply run_qg 4; (focus rfl); (focus exact wt); (focus rfl); (focus (first | exact qg4 | exact qs4))) | refine cod_seq ?_ | refine cod_region ?_ | refine run_nil ?_ | refine pst_then ?_ | (apply cod_cond_t; (focus rfl)) | (apply cod_cond_f; (focus rfl)) | refine cod_exit ?_ | refine cod_ret ?_ | refine pst_block_here ?_ | refine pst_then_exit ?_ | refine pst_then_ret ?_))
          exact pst_fin rfl (by exact resa) _ (⟨rfl, rfl⟩) (by exact hsa)
      · rw [if_neg hb] at hA
        subst hA
        unfold badV at hb
        have hb1 : ¬ v < 128 ∧ ¬ 1114111 < v := by omega
        rcases Nat.lt_or_ge v 55296 with hb2 | hb2
        · (repeat' (first | (apply run_qg 1; (focus rfl); (focus exact wt); (focus rfl); (focus (exact qg1))) | (apply run_qg 4; (focus rfl); (focus exact wt); (focus rfl); (focus (first | exact qg4 | exact qs4))) | refine cod_seq ?_ | refine cod_region ?_ | refine run_nil ?_ | refine pst_then ?_ | (apply cod_cond_f; (focus rfl)) | refine cod_exit ?_ | refine cod_ret ?_ | refine cod_skip ?_ | refine pst_block_here ?_ | refine pst_then_exit ?_ | (apply run_offs; (focus rfl); (focus rfl); (focus rfl))))
          exact pst_fin rfl (by exact resa) _ (⟨rfl, rfl⟩) (by exact hsa)
        · have hb3 : 57344 ≤ v := by omega
          (repeat' (first | (apply run_qg 1; (focus rfl); (focus exact wt); (focus rfl); (focus (exact qg1))) | (apply run_qg 4; (focus rfl); (focus exact wt); (focus rfl); (focus (first | exact qg4 | exact qs4))) | refine cod_seq ?_ | refine cod_region ?_ | refine run_nil ?_ | refine pst_then ?_ | (apply cod_cond_f; (focus rfl)) | refine cod_exit ?_ | refine cod_ret ?_ | refine cod_skip ?_ | refine pst_block_here ?_ | refine pst_then_exit ?_))
          exact pst_fin rfl (by exact resa) _ (⟨rfl, rfl⟩) (by exact hsa)
set_option maxRecDepth 100000 in
set_option maxHeartbeats 8000000 in
theorem first_three (b : UInt8) (ct : List UInt8) (hs : ct.length ≤ 140737488351232) (hb0 : ct[0]? = some b) (hx : 224 ≤ b.toNat ∧ b.toNat < 240) {R : Nat × Nat} (hR : (if ct.length < 3 then (0, 0) else restF 3 2048 (accF (b.toNat % 16) ((ct.take 3).drop 1))) = R) :
    Ct Tryd.prog 14 [.string (str ct)] [] fun v H' => v = .tuple #[.int .i64 (R.1 : Int), .int .i64 (R.2 : Int)] ∧ H' = [] := by
  have hb8 := b.toNat_lt
  by_cases hl : ct.length < 3
  · rw [if_pos hl] at hR
    subst hR
    (refine spec_enter Tryd.func14 Tryd.ntmps14 rfl rfl fun Fr => ?_; dsimp only [List.cons_append, List.nil_append, ini, Nat.reduceAdd])
    (repeat' (first | (apply run_qg 1; (focus rfl); (focus exact wt); (focus rfl); (focus (exact qg1))) | (apply run_qg 3; (focus rfl); (focus exact wt); (focus rfl); (focus (first | exact qg3 | exact qs3))) | (apply run_qg 4; (focus rfl); (focus exact wt); (focus rfl); (focus (first | exact qg4 | exact qs4))) | (apply run_qg 6; (focus rfl); (focus exact wt); (focus rfl); (focus (first | exact qs6 | exact qg6 | exact q_max rfl rfl rfl | exact q_sliceData rfl rfl (by omega) | exact q_sliceDataN rfl rfl | exact q_unsafeStringN rfl rfl rfl | exact q_cap_slice rfl rfl))) | (apply run_qg 11; (focus rfl); (focus exact wt); (focus rfl); (focus (exact qs11))) | refine cod_seq ?_ | refine cod_region ?_ | refine run_nil ?_ | refine pst_then ?_ | (apply cod_cond_t; (focus rfl)) | (apply cod_cond_f; (focus rfl)) | refine cod_block ?_ | refine cod_ret ?_ | refine pst_then_ret ?_ | refine pst_block ?_))
    exact pst_fin rfl (by exact resa) _ (⟨rfl, rfl⟩) (by exact hsa)
  · rw [if_neg hl] at hR
    have hm0 : b.toNat % 16 < 16 := Nat.mod_lt _ (by decide)
    have hmc : (b.toNat : Int) % 16 = ((b.toNat % 16 : Nat) : Int) := by omega
    (refine spec_enter Tryd.func14 Tryd.ntmps14 rfl rfl fun Fr => ?_; dsimp only [List.cons_append, List.nil_append, ini, Nat.reduceAdd])
    (repeat' (first | (apply run_qg 1; (focus rfl); (focus exact wt); (focus rfl); (focus (exact qg1))) | (apply run_qg 3; (focus rfl); (focus exact wt); (focus rfl); (focus (first | exact qg3 | exact qs3))) | (apply run_qg 4; (focus rfl); (focus exact wt); (focus rfl); (focus (first | exact qg4 | exact qs4))) | (apply run_qg 6; (focus rfl); (focus exact wt); (focus rfl); (focus (first | exact qs6 | exact qg6 | exact q_max rfl rfl rfl | exact q_sliceData rfl rfl (by omega) | exact q_sliceDataN rfl rfl | exact q_unsafeStringN rfl rfl rfl | exact q_cap_slice rfl rfl))) | (apply run_qg 11; (focus rfl); (focus exact wt); (focus rfl); (focus (exact qs11))) | refine cod_seq ?_ | refine cod_region ?_ | refine run_nil ?_ | refine pst_then ?_ | (apply cod_cond_t; (focus rfl)) | (apply cod_cond_f; (focus rfl)) | refine cod_block ?_ | refine cod_skip ?_ | refine pst_block ?_))
    (refine cod_loop_ro (σ := Nat × Nat) (fun x => (1 ≤ x.1 ∧ x.1 ≤ 3) ∧ x.2 < 16 * 64 ^ (x.1 - 1) ∧ restF 3 2048 (accF x.2 ((ct.take 3).drop x.1)) = R) (fun x => [(8, .int .i64 (x.1 : Int)), (7, .int .i64 (x.2 : Int))]) (fun x => 3 - x.1) ((1, b.toNat % 16)) (by exact ⟨⟨Nat.le_refl _, by dsimp only; omega⟩, by simpa using hm0, hR⟩) (by exact fsa) (fun ⟨i, v⟩ ⟨⟨hi1, hi2⟩, hv, hA⟩ => ?_); dsimp only [List.cons_append, List.nil_append])
    clear hR hm0 hmc
    dsimp only at hi1 hi2 hv hA
    have hv2 : v < 2097152 * 64 := Nat.lt_of_lt_of_le hv (Nat.le_trans (Nat.mul_le_mul_left _ (Nat.pow_le_pow_right (by decide) (by omega : i - 1 ≤ 3))) (by decide))
    rcases Nat.lt_or_ge i 3 with hlt | hge
    · obtain ⟨c, hc⟩ : ∃ c, ct[i]? = some c := ⟨_, List.getElem?_eq_getElem (by omega)⟩
      have hc8 := c.toNat_lt
      rw [take_succ_drop hc hlt, accF] at hA
      by_cases hbad : c.toNat < 128 ∨ 191 < c.toNat
      · rw [if_pos hbad] at hA
        subst hA
        clear hv
        rcases hbad with hbad | hbad
        · (repeat' (first | (apply run_qg 1; (focus rfl); (focus exact wt); (focus rfl); (focus (exact qg1))) | (apply run_qg 3; (focus rfl); (focus exact wt); (focus rfl); (focus (first | exact qg3 | exact qs3))) | (apply run_qg 4; (focus rfl); (focus exact wt); (focus rfl); (focus (first | exact qg4 | exact qs4))) | refine cod_seq ?_ | refine cod_region ?_ | refine run_nil ?_ | refine pst_then ?_ | (apply cod_cond_t; (focus rfl)) | refine cod_block ?_ | refine cod_ret ?_ | refine cod_skip ?_ | refine pst_block_ret ?_ | refine pst_then_ret ?_ | (apply run_offs; (focus rfl); (focus rfl); (focus rfl))))
          exact pst_fin rfl (by exact resa) _ (⟨rfl, rfl⟩) (by exact hsa)
        · have hbad2 : ¬ c.toNat < 128 := by omega
          (repeat' (first | (apply run_qg 1; (focus rfl); (focus exact wt); (focus rfl); (focus (exact qg1))) | (apply run_qg 3; (focus rfl); (focus exact wt); (focus rfl); (focus (first | exact qg3 | exact qs3))) | (apply run_qg 4; (focus rfl); (focus exact wt); (focus rfl); (focus (first | exact qg4 | exact qs4))) | refine cod_seq ?_ | refine cod_region ?_ | refine run_nil ?_ | refine pst_then ?_ | (apply cod_cond_t; (focus rfl)) | refine cod_block ?_ | refine cod_ret ?_ | refine cod_skip ?_ | refine pst_block_ret ?_ | refine pst_then_ret ?_))
          exact pst_fin rfl (by exact resa) _ (⟨rfl, rfl⟩) (by exact hsa)
      · rw [if_neg hbad] at hA
        have hvn : v * 64 + c.toNat % 64 < 16 * 64 ^ (i + 1 - 1) := by
          rw [show i + 1 - 1 = (i - 1) + 1 by omega, Nat.pow_succ]
          generalize 64 ^ (i - 1) = p at hv ⊢
          omega
        have hcm : (c.toNat : Int) % 64 = ((c.toNat % 64 : Nat) : Int) := by omega
        have hvc : (v : Int) * 64 + (c.toNat : Int) % 64 = ((v * 64 + c.toNat % 64 : Nat) : Int) := by push_cast; rfl
        clear hv
        (repeat' (first | (apply run_qg 1; (focus rfl); (focus exact wt); (focus rfl); (focus (exact qg1))) | (apply run_qg 3; (focus rfl); (focus exact wt); (focus rfl); (focus (first | exact qg3 | exact qs3))) | (apply run_qg 4; (focus rfl); (focus exact wt); (focus rfl); (focus (first | exact qg4 | exact qs4))) | (apply run_qg 11; (focus rfl); (focus exact wt); (focus rfl); (focus (exact qs11))) | refine cod_seq ?_ | refine cod_region ?_ | refine run_nil ?_ | refine pst_then ?_ | (apply cod_cond_t; (focus rfl)) | (apply cod_cond_f; (focus rfl)) | refine cod_block ?_ | refine cod_skip ?_ | refine pst_block ?_))
        rw [hvc]
        refine pst_again ((i + 1, v * 64 + c.toNat % 64)) ?_ (FSub.of (by (try dsimp only); exact fsa)) (by (try dsimp only); exact hsa) ?_
        · exact ⟨⟨by dsimp only; omega, hlt⟩, hvn, hA⟩
        · dsimp only; omega
    · have hil : i = 3 := by omega
      subst hil
      have hd : (ct.take 3).drop 3 = [] := List.drop_of_length_le (by rw [List.length_take]; omega)
      rw [hd, accF] at hA
      clear hd hv
      have hA : (if badV 2048 v then (0, 0) else (v, 3)) = R := hA
      by_cases hb : badV 2048 v
      · rw [if_pos hb] at hA
        subst hA
        unfold badV at hb
        rcases hb with hb | hb | hb
        · (repeat' (first | (apply run_qg 1; (focus rfl); (focus exact wt); (focus rfl); (focus (exact qg1))) | (apply run_qg 4; (focus rfl); (focus exact wt); (focus rfl); (focus (first | exact qg4 | exact qs4))) | refine cod_seq ?_ | refine cod_region ?_ | refine run_nil ?_ | refine pst_then ?_ | (apply cod_cond_t; (focus rfl)) | (apply cod_cond_f; (focus rfl)) | refine cod_exit ?_ | refine cod_ret ?_ | refine pst_block_here ?_ | refine pst_then_exit ?_ | refine pst_then_ret ?_ | (apply run_offs; (focus rfl); (focus rfl); (focus rfl)) | (apply run_offus; (focus rfl); (focus rfl); (focus rfl))))
          exact pst_fin rfl (by exact resa) _ (⟨rfl, rfl⟩) (by exact hsa)
        · have hb1 : ¬ v < 2048 := by omega
          (repeat' (first | (apply run_qg 1; (focus rfl); (focus exact wt); (focus rfl); (focus (exact qg1))) | (apply run_qg 4; (focus rfl); (focus exact wt); (focus rfl); (focus (first | exact qg4 | exact qs4))) | refine cod_seq ?_ | refine cod_region ?_ | refine run_nil ?_ | refine pst_then ?_ | (apply cod_cond_t; (focus rfl)) | (apply cod_cond_f; (focus rfl)) | refine cod_exit ?_ | refine cod_ret ?_ | refine pst_block_here ?_ | refine pst_then_exit ?_ | refine pst_then_ret ?_ | (apply run_offs; (focus rfl); (focus rfl); (focus rfl)) | (apply run_offus; (focus rfl); (focus rfl); (focus rfl))))
          exact pst_fin rfl (by exact resa) _ (⟨rfl, rfl⟩) (by exact hsa)
        · have hb1 : ¬ v < 2048 ∧ ¬ 1114111 < v := by omega
          (repeat' (first | (apply run_qg 1; (focus rfl); (focus exact wt); (focus rfl); (focus (exact qg1))) | (apply run_qg 4; (focus rfl); (focus exact wt); (focus rfl); (focus (first | exact qg4 | exact qs4))) | refine cod_seq ?_ | refine cod_region ?_ | refine run_nil ?_ | refine pst_then ?_ | (apply cod_cond_t; (focus rfl)) | (apply cod_cond_f; (focus rfl)) | refine cod_exit ?_ | refine cod_ret ?_ | refine pst_block_here ?_ | refine pst_then_exit ?_ | refine pst_then_ret ?_))
          exact pst_fin rfl (by exact resa) _ (⟨rfl, rfl⟩) (by exact hsa)
      · rw [if_neg hb] at hA
        subst hA
        unfold badV at hb
        have hb1 : ¬ v < 2048 ∧ ¬ 1114111 < v := by omega
        rcases Nat.lt_or_ge v 55296 with hb2 | hb2
        · (repeat' (first | (apply run_qg 1; (focus rfl); (focus exact wt); (focus rfl); (focus (exact qg1))) | (apply run_qg 4; (focus rfl); (focus exact wt); (focus rfl); (focus (first | exact qg4 | exact qs4))) | refine cod_seq ?_ | refine cod_region ?_ | refine run_nil ?_ | refine pst_then ?_ | (apply cod_cond_f; (focus rfl)) | refine cod_exit ?_ | refine cod_ret ?_ | refine cod_skip ?_ | refine pst_block_here ?_ | refine pst_then_exit ?_ | (apply run_offs; (focus rfl); (focus rfl); (focus rfl))))
          exact pst_fin rfl (by exact resa) _ (⟨rfl, rfl⟩) (by exact hsa)
        · have hb3 : 57344 ≤ v := by omega
          (repeat' (first | (apply run_qg 1; (focus rfl); (focus exact wt); (focus rfl); (focus (exact qg1))) | (apply run_qg 4; (focus rfl); (focus exact wt); (focus rfl); (focus (first | exact qg4 | exact qs4))) | refine cod_seq ?_ | refine cod_region ?_ | refine run_nil ?_ | refine pst_then ?_ | (apply cod_cond_f; (focus rfl)) | refine cod_exit ?_ | refine cod_ret ?_ | refine cod_skip ?_ | refine pst_block_here ?_ | refine pst_then_exit ?_))
          exact pst_fin rfl (by exact resa) _ (⟨rfl, rfl⟩) (by exact hsa)
set_option maxRecDepth 100000 in
set_option maxHeartbeats 8000000 in
theorem first_four (b : UInt8) (ct : List UInt8) (hs : ct.length ≤ 140737488351232) (hb0 : ct[0]? = some b) (hx : 240 ≤ b.toNat ∧ b.toNat < 245) {R : Nat × Nat} (hR : (if ct.length < 4 then (0, 0) else restF 4 65536 (accF (b.toNat % 8) ((ct.take 4).drop 1))) = R) :
    Ct Tryd.prog 14 [.string (str ct)] [] fun v H' => v = .tuple #[.int .i64 (R.1 : Int), .int .i64 (R.2 : Int)] ∧ H' = [] := by
  have hb8 := b.toNat_lt
  by_cases hl : ct.length < 4
  · rw [if_pos hl] at hR
    subst hR
    (refine spec_enter Tryd.func14 Tryd.ntmps14 rfl rfl fun Fr => ?_; dsimp only [List.cons_append, List.nil_append, ini, Nat.reduceAdd])
    (repeat' (first | (apply run_qg 1; (focus rfl); (focus exact wt); (focus rfl); (focus (exact qg1))) | (apply run_qg 3; (focus rfl); (focus exact wt); (focus rfl); (focus (first | exact qg3 | exact qs3))) | (apply run_qg 4; (focus rfl); (focus exact wt); (focus rfl); (focus (first | exact qg4 | exact qs4))) | (apply run_qg 6; (focus rfl); (focus exact wt); (focus rfl); (focus (first | exact qs6 | exact qg6 | exact q_max rfl rfl rfl | exact q_sliceData rfl rfl (by omega) | exact q_sliceDataN rfl rfl | exact q_unsafeStringN rfl rfl rfl | exact q_cap_slice rfl rfl))) | (apply run_qg 11; (focus rfl); (focus exact wt); (focus rfl); (focus (exact qs11))) | refine cod_seq ?_ | refine cod_region ?_ | refine run_nil ?_ | refine pst_then ?_ | (apply cod_cond_t; (focus rfl)) | (apply cod_cond_f; (focus rfl)) | refine cod_block ?_ | refine cod_ret ?_ | refine pst_then_ret ?_ | refine pst_block ?_))
    exact pst_fin rfl (by exact resa) _ (⟨rfl, rfl⟩) (by exact hsa)
  · rw [if_neg hl] at hR
    have hm0 : b.toNat % 8 < 8 := Nat.mod_lt _ (by decide)
    have hmc : (b.toNat : Int) % 8 = ((b.toNat % 8 : Nat) : Int) := by omega
    (refine spec_enter Tryd.func14 Tryd.ntmps14 rfl rfl fun Fr => ?_; dsimp only [List.cons_append, List.nil_append, ini, Nat.reduceAdd])
    (repeat' (first | (apply run_qg 1; (focus rfl); (focus exact wt); (focus rfl); (focus (exact qg1))) | (apply run_qg 3; (focus rfl); (focus exact wt); (focus rfl); (focus (first | exact qg3 | exact qs3))) | (apply run_qg 4; (focus rfl); (focus exact wt); (focus rfl); (focus (first | exact qg4 | exact qs4))) | (apply run_qg 6; (focus rfl); (focus exact wt); (focus rfl); (focus (first | exact qs6 | exact qg6 | exact q_max rfl rfl rfl | exact q_sliceData rfl rfl (by omega) | exact q_sliceDataN rfl rfl | exact q_unsafeStringN rfl rfl rfl | exact q_cap_slice rfl rfl))) | (apply run_qg 11; (focus rfl); (focus exact wt); (focus rfl); (focus (exact qs11))) | refine cod_seq ?_ | refine cod_region ?_ | refine run_nil ?_ | refine pst_then ?_ | (apply cod_cond_t; (focus rfl)) | (apply cod_cond_f; (focus rfl)) | refine cod_block ?_ | refine cod_skip ?_ | refine pst_block ?_))
    (refine cod_loop_ro (σ := Nat × Nat) (fun x => (1 ≤ x.1 ∧ x.1 ≤ 4) ∧ x.2 < 8 * 64 ^ (x.1 - 1) ∧ restF 4 65536 (accF x.2 ((ct.take 4).drop x.1)) = R) (fun x => [(8, .int .i64 (x.1 : Int)), (7, .int .i64 (x.2 : Int))]) (fun x => 4 - x.1) ((1, b.toNat % 8)) (by exact ⟨⟨Nat.le_refl _, by dsimp only; omega⟩, by simpa using hm0, hR⟩) (by exact fsa) (fun ⟨i, v⟩ ⟨⟨hi1, hi2⟩, hv, hA⟩ => ?_); dsimp only [List.cons_append, List.nil_append])
    clear hR hm0 hmc
    dsimp only at hi1 hi2 hv hA
    have hv2 : v < 2097152 * 64 := Nat.lt_of_lt_of_le hv (Nat.le_trans (Nat.mul_le_mul_left _ (Nat.pow_le_pow_right (by decide) (by omega : i - 1 ≤ 3))) (by decide))
    rcases Nat.lt_or_ge i 4 with hlt | hge
    · obtain ⟨c, hc⟩ : ∃ c, ct[i]? = some c := ⟨_, List.getElem?_eq_getElem (by omega)⟩
      have hc8 := c.toNat_lt
      rw [take_succ_drop hc hlt, accF] at hA
      by_cases hbad : c.toNat < 128 ∨ 191 < c.toNat
      · rw [if_pos hbad] at hA
        subst hA
        clear hv
        rcases hbad with hbad | hbad
        · (repeat' (first | (apply run_qg 1; (focus rfl); (focus exact wt); (focus rfl); (focus (exact qg1))) | (apply run_qg 3; (focus rfl); (focus exact wt); (focus rfl); (focus (first | exact qg3 | exact qs3))) | (apply run_qg 4; (focus rfl); (focus exact wt); (focus rfl); (focus (first | exact qg4 | exact qs4))) | refine cod_seq ?_ | refine cod_region ?_ | refine run_nil ?_ | refine pst_then ?_ | (apply cod_cond_t; (focus rfl)) | refine cod_block ?_ | refine cod_ret ?_ | refine cod_skip ?_ | refine pst_block_ret ?_ | refine pst_then_ret ?_ | (apply run_offs; (focus rfl); (focus rfl); (focus rfl))))
          exact pst_fin rfl (by exact resa) _ (⟨rfl, rfl⟩) (by exact hsa)
        · have hbad2 : ¬ c.toNat < 128 := by omega
          (repeat' (first | (apply run_qg 1; (focus rfl); (focus exact wt); (focus rfl); (focus (exact qg1))) | (apply run_qg 3; (focus rfl); (focus exact wt); (focus rfl); (focus (first | exact qg3 | exact qs3))) | (apply run_qg 4; (focus rfl); (focus exact wt); (focus rfl); (focus (first | exact qg4 | exact qs4))) | refine cod_seq ?_ | refine cod_region ?_ | refine run_nil ?_ | refine pst_then ?_ | (apply cod_cond_t; (focus rfl)) | refine cod_block ?_ | refine cod_ret ?_ | refine cod_skip ?_ | refine pst_block_ret ?_ | refine pst_then_ret ?_))
          exact pst_fin rfl (by exact resa) _ (⟨rfl, rfl⟩) (by exact hsa)
      · rw [if_neg hbad] at hA
        have hvn : v * 64 + c.toNat % 64 < 8 * 64 ^ (i + 1 - 1) := by
          rw [show i + 1 - 1 = (i - 1) + 1 by omega, Nat.pow_succ]
          generalize 64 ^ (i - 1) = p at hv ⊢
          omega
        have hcm : (c.toNat : Int) % 64 = ((c.toNat % 64 : Nat) : Int) := by omega
        have hvc : (v : Int) * 64 + (c.toNat : Int) % 64 = ((v * 64 + c.toNat % 64 : Nat) : Int) := by push_cast; rfl
        clear hv
        (repeat' (first | (apply run_qg 1; (focus rfl); (focus exact wt); (focus rfl); (focus (exact qg1))) | (apply run_qg 3; (focus rfl); (focus exact wt); (focus rfl); (focus (first | exact qg3 | exact qs3))) | (apply run_qg 4; (focus rfl); (focus exact wt); (focus rfl); (focus (first | exact qg4 | exact qs4))) | (apply run_qg 11; (focus rfl); (focus exact wt); (focus rfl); (focus (exact qs11))) | refine cod_seq ?_ | refine cod_region ?_ | refine run_nil ?_ | refine pst_then ?_ | (apply cod_cond_t; (focus rfl)) | (apply cod_cond_f; (focus rfl)) | refine cod_block ?_ | refine cod_skip ?_ | refine pst_block ?_))
        rw [hvc]
        refine pst_again ((i + 1, v * 64 + c.toNat % 64)) ?_ (FSub.of (by (try dsimp only); exact fsa)) (by (try dsimp only); exact hsa) ?_
        · exact ⟨⟨by dsimp only; omega, hlt⟩, hvn, hA⟩
        · dsimp only; omega
    · have hil : i = 4 := by omega
      subst hil
      have hd : (ct.take 4).drop 4 = [] := List.drop_of_length_le (by rw [List.length_take]; omega)
      rw [hd, accF] at hA
      clear hd hv
      have hA : (if badV 65536 v then (0, 0) else (v, 4)) = R := hA
      by_cases hb : badV 65536 v
      · rw [if_pos hb] at hA
        subst hA
        unfold badV at hb
        rcases hb with hb | hb | hb
        · (repeat' (first | (apply run_qg 1; (focus rfl); (focus exact wt); (focus rfl); (focus (exact qg1))) | (apply run_qg 4; (focus rfl); (focus exact wt); (focus rfl); (focus (first | exact qg4 | exact qs4))) | refine cod_seq ?_ | refine cod_region ?_ | refine run_nil ?_ | refine pst_then ?_ | (apply cod_cond_t; (focus rfl)) | (apply cod_cond_f; (focus rfl)) | refine cod_exit ?_ | refine cod_ret ?_ | refine pst_block_here ?_ | refine pst_then_exit ?_ | refine pst_then_ret ?_ | (apply run_offs; (focus rfl); (focus rfl); (focus rfl)) | (apply run_offus; (focus rfl); (focus rfl); (focus rfl))))
          exact pst_fin rfl (by exact resa) _ (⟨rfl, rfl⟩) (by exact hsa)
        · have hb1 : ¬ v < 65536 := by omega
          (repeat' (first | (apply run_qg 1; (focus rfl); (focus exact wt); (focus rfl); (focus (exact qg1))) | (apply run_qg 4; (focus rfl); (focus exact wt); (focus rfl); (focus (first | exact qg4 | exact qs4))) | refine cod_seq ?_ | refine cod_region ?_ | refine run_nil ?_ | refine pst_then ?_ | (apply cod_cond_t; (focus rfl)) | (apply cod_cond_f; (focus rfl)) | refine cod_exit ?_ | refine cod_ret ?_ | refine pst_block_here ?_ | refine pst_then_exit ?_ | refine pst_then_ret ?_ | (apply run_offs; (focus rfl); (focus rfl); (focus rfl)) | (apply run_offus; (focus rfl); (focus rfl); (focus rfl))))
          exact pst_fin rfl (by exact resa) _ (⟨rfl, rfl⟩) (by exact hsa)
        · have hb1 : v < 65536 := by omega
          (repeat' (first | (apply run_qg 1; (focus rfl); (focus exact wt); (focus rfl); (focus (exact qg1))) | (apply run_qg 4; (focus rfl); (focus exact wt); (focus rfl); (focus (first | exact qg4 | exact qs4))) | refine cod_seq ?_ | refine cod_region ?_ | refine run_nil ?_ | refine pst_then ?_ | (apply cod_cond_t; (focus rfl)) | (apply cod_cond_f; (focus rfl)) | refine cod_exit ?_ | refine cod_ret ?_ | refine pst_block_here ?_ | refine pst_then_exit ?_ | refine pst_then_ret ?_ | (apply run_offs; (focus rfl); (focus rfl); (focus rfl)) | (apply run_offus; (focus rfl); (focus rfl); (focus rfl))))
          exact pst_fin rfl (by exact resa) _ (⟨rfl, rfl⟩) (by exact hsa)
      · rw [if_neg hb] at hA
        subst hA
        unfold badV at hb
        have hb1 : ¬ v < 65536 ∧ ¬ 1114111 < v := by omega
        (repeat' (first | (apply run_qg 1; (focus rfl); (focus exact wt); (focus rfl); (focus (exact qg1))) | (apply run_qg 4; (focus rfl); (focus exact wt); (focus rfl); (focus (first | exact qg4 | exact qs4))) | refine cod_seq ?_ | refine cod_region ?_ | refine run_nil ?_ | refine pst_then ?_ | (apply cod_cond_f; (focus rfl)) | refine cod_exit ?_ | refine cod_ret ?_ | refine cod_skip ?_ | refine pst_block_here ?_ | refine pst_then_exit ?_))
        exact pst_fin rfl (by exact resa) _ (⟨rfl, rfl⟩) (by exact hsa)
set_option maxRecDepth 100000 in
set_option maxHeartbeats 8000000 in
theorem first_low (b : UInt8) (ct : List UInt8) (hs : ct.length ≤ 140737488351232) (hb0 : ct[0]? = some b) (hx : b.toNat < 128) :
    Ct Tryd.prog 14 [.string (str ct)] [] fun v H' => v = .tuple #[.int .i64 (b.toNat : Int), .int .i64 1] ∧ H' = [] := by
  (refine spec_enter Tryd.func14 Tryd.ntmps14 rfl rfl fun Fr => ?_; dsimp only [List.cons_append, List.nil_append, ini, Nat.reduceAdd])
  (repeat' (first | (apply run_qg 1; (focus rfl); (focus exact wt); (focus rfl); (focus (exact qg1))) | (apply run_qg 3; (focus rfl); (focus exact wt); (focus rfl); (focus (first | exact qg3 | exact qs3))) | (apply run_qg 4; (focus rfl); (focus exact wt); (focus rfl); (focus (first | exact qg4 | exact qs4))) | (apply run_qg 11; (focus rfl); (focus exact wt); (focus rfl); (focus (exact qs11))) | refine cod_seq ?_ | refine cod_region ?_ | refine run_nil ?_ | refine pst_then ?_ | (apply cod_cond_t; (focus rfl)) | refine cod_block ?_ | refine cod_ret ?_ | refine pst_block_ret ?_ | refine pst_then_ret ?_))
  exact pst_fin rfl (by exact resa) _ (⟨rfl, rfl⟩) (by exact hsa)
set_option maxRecDepth 100000 in
set_option maxHeartbeats 8000000 in
theorem first_no (b : UInt8) (ct : List UInt8) (hs : ct.length ≤ 140737488351232) (hb0 : ct[0]? = some b) (hx : 128 ≤ b.toNat ∧ b.toNat < 194 ∨ 245 ≤ b.toNat) :
    Ct Tryd.prog 14 [.string (str ct)] [] fun v H' => v = .tuple #[.int .i64 0, .int .i64 0] ∧ H' = [] := by
  have hb8 := b.toNat_lt
  rcases hx with hx | hx
  · (refine spec_enter Tryd.func14 Tryd.ntmps14 rfl rfl fun Fr => ?_; dsimp only [List.cons_append, List.nil_append, ini, Nat.reduceAdd])
    (repeat' (first | (apply run_qg 1; (focus rfl); (focus exact wt); (focus rfl); (focus (exact qg1))) | (apply run_qg 3; (focus rfl); (focus exact wt); (focus rfl); (focus (first | exact qg3 | exact qs3))) | (apply run_qg 4; (focus rfl); (focus exact wt); (focus rfl); (focus (first | exact qg4 | exact qs4))) | (apply run_qg 11; (focus rfl); (focus exact wt); (focus rfl); (focus (exact qs11))) | refine cod_seq ?_ | refine cod_region ?_ | refine run_nil ?_ | refine pst_then ?_ | (apply cod_cond_t; (focus rfl)) | (apply cod_cond_f; (focus rfl)) | refine cod_block ?_ | refine cod_ret ?_ | refine cod_skip ?_ | refine pst_then_ret ?_ | refine pst_block ?_ | (apply run_offs; (focus rfl); (focus rfl); (focus rfl))))
    exact pst_fin rfl (by exact resa) _ (⟨rfl, rfl⟩) (by exact hsa)
  · (refine spec_enter Tryd.func14 Tryd.ntmps14 rfl rfl fun Fr => ?_; dsimp only [List.cons_append, List.nil_append, ini, Nat.reduceAdd])
    (repeat' (first | (apply run_qg 1; (focus rfl); (focus exact wt); (focus rfl); (focus (exact qg1))) | (apply run_qg 3; (focus rfl); (focus exact wt); (focus rfl); (focus (first | exact qg3 | exact qs3))) | (apply run_qg 4; (focus rfl); (focus exact wt); (focus rfl); (focus (first | exact qg4 | exact qs4))) | (apply run_qg 11; (focus rfl); (focus exact wt); (focus rfl); (focus (exact qs11))) | refine cod_seq ?_ | refine cod_region ?_ | refine run_nil ?_ | refine pst_then ?_ | (apply cod_cond_t; (focus rfl)) | (apply cod_cond_f; (focus rfl)) | refine cod_block ?_ | refine cod_ret ?_ | refine cod_skip ?_ | refine pst_then_ret ?_ | refine pst_block ?_ | (apply run_offs; (focus rfl); (focus rfl); (focus rfl))))
    exact pst_fin rfl (by exact resa) _ (⟨rfl, rfl⟩) (by exact hsa)
theorem first_any (b : UInt8) (t : List UInt8) (hs : (b :: t).length ≤ 140737488351232) :
    Ct Tryd.prog 14 [.string (str (b :: t))] [] fun v H' => v = .tuple #[.int .i64 ((firstP b t).1 : Int), .int .i64 ((firstP b t).2 : Int)] ∧ H' = [] := by
  have hb8 := b.toNat_lt
  have hd : ∀ k, ((b :: t).take (k + 1)).drop 1 = t.take k := fun k => rfl
  by_cases h0 : b.toNat < 128
  · have e : firstP b t = (b.toNat, 1) := by unfold firstP; rw [if_pos h0]
    rw [e]
    exact first_low b (b :: t) hs rfl h0
  · by_cases hA : 194 ≤ b.toNat ∧ b.toNat < 224
    · refine first_two b (b :: t) hs rfl hA ?_
      unfold firstP clsV
      rw [if_neg h0, if_pos hA]
      dsimp only
      simp only [Nat.reduceEqDiff, false_or, List.length_cons]
      rfl
    · by_cases hB : 224 ≤ b.toNat ∧ b.toNat < 240
      · refine first_three b (b :: t) hs rfl hB ?_
        unfold firstP clsV
        rw [if_neg h0, if_neg hA, if_pos hB]
        dsimp only
        simp only [Nat.reduceEqDiff, false_or, List.length_cons]
        rfl
      · by_cases hC : 240 ≤ b.toNat ∧ b.toNat < 245
        · refine first_four b (b :: t) hs rfl hC ?_
          unfold firstP clsV
          rw [if_neg h0, if_neg hA, if_neg hB, if_pos hC]
          dsimp only
          simp only [Nat.reduceEqDiff, false_or, List.length_cons]
          rfl
        · have e : firstP b t = (0, 0) := by
            unfold firstP clsV
            rw [if_neg h0, if_neg hA, if_neg hB, if_neg hC, if_pos (.inl rfl)]
          rw [e]
          exact first_no b (b :: t) hs rfl (by omega)
end Go.Proofs.YtcbpeampjhegcaaDoor.glob
