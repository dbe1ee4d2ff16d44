/-
  blob: Check, Write: what they answer, and the walks.
-/
import Derived.Test.YtcaefeooneomnaaSlStr
import Derived.Test.YtcaefeooneomnaaTypes
import Derived.Test.YtcaefeooneomnaaFixLaw
import Derived.Test.YtcaefeooneomnaaGetPut
namespace Go.Proofs.Ytcaefeooneomnaa.blob
open Go.RowKit kit sl Go.Proofs.Ytcaefeooneomnaa.fix Go.Proofs.Ytcaefeooneomnaa.fixl Go.Proofs.Ytcaefeooneomnaa.put Go.Proofs.Ytcaefeooneomnaa.get
set_option linter.unusedVariables false
abbrev Blob := Int × Int × Int × List UInt8
def fBl (p : Blob) : List Value := [.int .i64 p.1, .int .i64 p.2.1, .int .i64 p.2.2.1, .string (str p.2.2.2)]
theorem one_fBl (p : Blob) : ∀ u ∈ fBl p, u.oneCell' = true := by simp [fBl, Value.oneCell']
def toB (p : Int × Int × Int × ByteArray) : Blob := (p.1, p.2.1, p.2.2.1, p.2.2.2.data.toList)
def toS (p : Blob) : Int × Int × Int × ByteArray := (p.1, p.2.1, p.2.2.1, str p.2.2.2)
theorem fBl_toB : fIIIS = fun p => fBl (toB p) := by
  funext p
  rfl
theorem toS_inj {p q : Blob} (h : toS p = toS q) : p = q := by
  obtain ⟨a, b, c, d⟩ := p
  obtain ⟨a', b', c', d'⟩ := q
  simp only [toS, Prod.mk.injEq] at h ⊢
  exact ⟨h.1, h.2.1, h.2.2.1, str_eq h.2.2.2⟩
theorem pln_Bl (p q : Blob) : eqPlan [(0, 0), (1, 0), (2, 0), (3, 1)] (fBl p) (fBl p) = some true ∧ (p ≠ q → eqPlan [(0, 0), (1, 0), (2, 0), (3, 1)] (fBl p) (fBl q) = some false) :=
  ⟨(pln_IIIS (toS p) (toS q)).1, fun h => (pln_IIIS (toS p) (toS q)).2 fun e => h (toS_inj e)⟩
instance : EqV Try.prog 28 (fun p => Value.agg (fBl p).toArray) := eqV_of inferInstance pln_Bl
attribute [local irreducible] box own sl old bptr eptr Qt Opr Run Cod Pst Drn
def badArg (p : Blob) : Prop := p.2.1 < 0 ∨ 48 ≤ p.2.1 ∨ ¬ (p.1 = 1 ∧ 0 ≤ p.2.2.1 ∧ p.2.2.1 < 8 ∨ p.1 = 2 ∧ p.2.2.1 = 0 ∨ p.1 = 3 ∧ p.2.2.1 = 0 ∧ (p.2.2.2).length = 0)
instance (p : Blob) : Decidable (badArg p) := by unfold badArg; infer_instance
def blobE (p : Blob) : Int := if badArg p then 1 else if 600 < ((p.2.2.2).length : Int) then 2 else 0
theorem blobE_1 {p : Blob} (h : badArg p) : blobE p = 1 := by unfold blobE; rw [if_pos h]
theorem blobE_2 {p : Blob} (h : ¬ badArg p) (h2 : 600 < ((p.2.2.2).length : Int)) : blobE p = 2 := by unfold blobE; rw [if_neg h, if_pos h2]
theorem blobE_0 {p : Blob} (h : ¬ badArg p) (h2 : ¬ 600 < ((p.2.2.2).length : Int)) : blobE p = 0 := by unfold blobE; rw [if_neg h, if_neg h2]
theorem blobE_zero {p : Blob} (h : blobE p = 0) : 0 ≤ p.1 ∧ p.1 ≤ 3 ∧ 0 ≤ p.2.1 ∧ p.2.1 < 48 ∧ 0 ≤ p.2.2.1 ∧ p.2.2.1 < 8 ∧ (p.2.2.2).length ≤ 600 := by
  by_cases h1 : badArg p
  · rw [blobE_1 h1] at h; cases h
  · by_cases h2 : 600 < ((p.2.2.2).length : Int)
    · rw [blobE_2 h1 h2] at h; cases h
    · unfold badArg at h1
      omega
set_option maxRecDepth 100000 in
set_option maxHeartbeats 8000000 in
theorem check_any (k i m : Int) (s : List UInt8) : Ct Try.prog 27 [.agg #[.int .i64 k, .int .i64 i, .int .i64 m, .string (str s)]] [] fun v H' => v = .int .i64 (blobE (k, i, m, s)) ∧ H' = [] := by
  by_cases e1 : s = []
  · have e2 : s.length = 0 := by rw [e1]; rfl
    have e3 : (s == []) = true := by rw [e1]; rfl
    (refine spec_enter Try.func27 Try.ntmps27 rfl rfl fun Fr => ?_; dsimp only [List.cons_append, List.nil_append, ini, Nat.reduceAdd])
    (repeat' (first | (apply run_qg 1; (focus rfl); (focus exact wt); (focus rfl); (focus (exact qg1))) | (apply run_qg 2; (focus rfl); (focus exact wt); (focus rfl); (focus (first | exact qg2 | exact qs2))) | (apply run_qg 3; (focus rfl); (focus exact wt); (focus rfl); (focus (first | exact qg3 | exact qs3))) | (apply run_qg 4; (focus rfl); (focus exact wt); (focus rfl); (focus (first | exact qg4 | exact qs4))) | (apply run_qg 6; (focus rfl); (focus exact wt); (focus rfl); (focus (first | exact qs6 | exact qg6 | exact q_max rfl rfl rfl | exact q_sliceData rfl rfl (by omega) | exact q_sliceDataN rfl rfl | exact q_unsafeStringN rfl rfl rfl | exact q_cap_slice rfl rfl))) | refine cod_seq ?_ | refine cod_region ?_ | refine run_nil ?_ | refine pst_then ?_ | (apply cod_cond_t; (focus rfl)) | (apply cod_cond_f; (focus rfl)) | refine cod_block ?_ | refine cod_ret ?_ | refine cod_skip ?_ | refine pst_block_ret ?_ | refine pst_then_ret ?_ | refine pst_block ?_ | (apply run_osg 8; (focus rfl); (focus exact wt); (focus rfl); (focus (exact opr_box_agg rfl rfl)); (rintro _ _ ⟨b, rfl, rfl⟩)) | (apply run_offs; (focus rfl); (focus rfl); (focus rfl)) | ((first | (apply run_lss; (rotate_left 2); (focus rfl)) | (apply run_leq; (rotate_left 2); (focus rfl)) | (apply run_gtr; (rotate_left 2); (focus rfl)) | (apply run_geq; (rotate_left 2); (focus rfl)) | (apply run_eql; (rotate_left 2); (focus rfl)) | (apply run_neq; (rotate_left 2); (focus rfl)) | (apply run_seq; (rotate_left 2); (focus rfl)) | (apply run_sneq; (rotate_left 2); (focus rfl))); (focus rfl); (focus rfl); (rotate_right 2); (focus exact wt); (focus rfl); (all_goals (intro h; dsimp only [upd])))))
    all_goals exact pst_fin rfl resa _ ⟨by first | rw [blobE_0 (by unfold badArg; dsimp only; omega) (by dsimp only; omega)] | rw [blobE_1 (by unfold badArg; dsimp only; omega)] | rw [blobE_2 (by unfold badArg; dsimp only; omega) (by dsimp only; omega)] | (exfalso; omega), rfl⟩ hsa
  · have e2 : s.length ≠ 0 := fun h => e1 (List.eq_nil_of_length_eq_zero h)
    have e3 : (s == []) = false := by simpa using e1
    (refine spec_enter Try.func27 Try.ntmps27 rfl rfl fun Fr => ?_; dsimp only [List.cons_append, List.nil_append, ini, Nat.reduceAdd])
    (repeat' (first | (apply run_qg 1; (focus rfl); (focus exact wt); (focus rfl); (focus (exact qg1))) | (apply run_qg 2; (focus rfl); (focus exact wt); (focus rfl); (focus (first | exact qg2 | exact qs2))) | (apply run_qg 3; (focus rfl); (focus exact wt); (focus rfl); (focus (first | exact qg3 | exact qs3))) | (apply run_qg 4; (focus rfl); (focus exact wt); (focus rfl); (focus (first | exact qg4 | exact qs4))) | (apply run_qg 6; (focus rfl); (focus exact wt); (focus rfl); (focus (first | exact qs6 | exact qg6 | exact q_max rfl rfl rfl | exact q_sliceData rfl rfl (by omega) | exact q_sliceDataN rfl rfl | exact q_unsafeStringN rfl rfl rfl | exact q_cap_slice rfl rfl))) | refine cod_seq ?_ | refine cod_region ?_ | refine run_nil ?_ | refine pst_then ?_ | (apply cod_cond_t; (focus rfl)) | (apply cod_cond_f; (focus rfl)) | refine cod_block ?_ | refine cod_ret ?_ | refine cod_skip ?_ | refine pst_block_ret ?_ | refine pst_then_ret ?_ | refine pst_block ?_ | (apply run_osg 8; (focus rfl); (focus exact wt); (focus rfl); (focus (exact opr_box_agg rfl rfl)); (rintro _ _ ⟨b, rfl, rfl⟩)) | (apply run_offs; (focus rfl); (focus rfl); (focus rfl)) | ((first | (apply run_lss; (rotate_left 2); (focus rfl)) | (apply run_leq; (rotate_left 2); (focus rfl)) | (apply run_gtr; (rotate_left 2); (focus rfl)) | (apply run_geq; (rotate_left 2); (focus rfl)) | (apply run_eql; (rotate_left 2); (focus rfl)) | (apply run_neq; (rotate_left 2); (focus rfl)) | (apply run_seq; (rotate_left 2); (focus rfl)) | (apply run_sneq; (rotate_left 2); (focus rfl))); (focus rfl); (focus rfl); (rotate_right 2); (focus exact wt); (focus rfl); (all_goals (intro h; dsimp only [upd])))))
    all_goals exact pst_fin rfl resa _ ⟨by first | rw [blobE_0 (by unfold badArg; dsimp only; omega) (by dsimp only; omega)] | rw [blobE_1 (by unfold badArg; dsimp only; omega)] | rw [blobE_2 (by unfold badArg; dsimp only; omega) (by dsimp only; omega)] | (exfalso; omega), rfl⟩ hsa
theorem check_p (p : Blob) : Ct Try.prog 27 [.agg #[.int .i64 p.1, .int .i64 p.2.1, .int .i64 p.2.2.1, .string (str p.2.2.2)]] [] fun v H' => v = .int .i64 (blobE p) ∧ H' = [] := check_any p.1 p.2.1 p.2.2.1 p.2.2.2
def firstE : List Blob → Int
  | [] => 0
  | p :: l => if blobE p ≠ 0 then blobE p else firstE l
theorem firstE_next {l : List Blob} {k : Nat} {p : Blob} (hp : l[k]? = some p) (h : firstE (l.take k) = 0) (h1 : blobE p = 0) : firstE (l.take (k + 1)) = 0 := by
  induction l generalizing k with
  | nil => simp at hp
  | cons q l ih =>
    cases k with
    | zero =>
      simp at hp
      subst hp
      simp [firstE, h1]
    | succ k =>
      simp only [List.take_succ_cons, firstE] at h ⊢
      split at h
      · rename_i h2; exact absurd h h2
      · rename_i h2
        rw [if_neg h2]
        exact ih (by simpa using hp) h
theorem firstE_at {l : List Blob} {k : Nat} {p : Blob} (hp : l[k]? = some p) (h : firstE (l.take k) = 0) (h1 : blobE p ≠ 0) : firstE l = blobE p := by
  induction l generalizing k with
  | nil => simp at hp
  | cons q l ih =>
    cases k with
    | zero =>
      simp at hp
      subst hp
      simp [firstE, h1]
    | succ k =>
      simp only [List.take_succ_cons, firstE] at h ⊢
      split at h
      · rename_i h2; exact absurd h h2
      · rename_i h2
        rw [if_neg h2]
        exact ih (by simpa using hp) h
theorem firstE_zero {l : List Blob} : firstE l = 0 ↔ ∀ p ∈ l, blobE p = 0 := by
  induction l with
  | nil => simp [firstE]
  | cons q l ih =>
    simp only [firstE]
    split
    · rename_i h
      constructor
      · intro h2; exact absurd h2 h
      · intro h2; exact absurd (h2 q List.mem_cons_self) h
    · rename_i h
      simp only [ne_eq, Decidable.not_not] at h
      rw [ih]
      constructor
      · intro h2 p hp
        rcases List.mem_cons.1 hp with rfl | hp
        · exact h
        · exact h2 p hp
      · exact fun h2 p hp => h2 p (List.mem_cons_of_mem _ hp)
/-- the bytes of one blob -/
def oneB (p : Blob) : List UInt8 := [UInt8.ofNat p.1.toNat, UInt8.ofNat p.2.1.toNat, UInt8.ofNat p.2.2.1.toNat] ++ putB (p.2.2.2).length ++ p.2.2.2
def bodyB (l : List Blob) : List UInt8 := l.flatMap oneB
theorem bodyB_app (a b : List Blob) : bodyB (a ++ b) = bodyB a ++ bodyB b := by simp [bodyB]
theorem bodyB_next {l : List Blob} {k : Nat} {p : Blob} (hp : l[k]? = some p) : bodyB (l.take (k + 1)) = bodyB (l.take k) ++ oneB p := by
  rw [take_one hp, bodyB_app]
  simp [bodyB]
def headB (last : Bool) (n : Nat) : List UInt8 := (if last then [1] else [0]) ++ fixB n 1
def writeB (l : List Blob) (last : Bool) : List UInt8 := headB last l.length ++ bodyB l
def writeE (l : List Blob) : Int := if 40 < (l.length : Int) then 2 else if firstE l ≠ 0 then firstE l else if 1000 < (2 + (bodyB l).length : Int) then 2 else 0
def writeS (l : List Blob) (last : Bool) : List UInt8 := if writeE l = 0 then writeB l last else []
theorem put_ct (i : Int) (hi : 0 ≤ i ∧ i < 18446744073709551616) : Ct Try.prog 30 [.int .u64 i] [] fun v H' => v = .string (str (putB i.toNat)) ∧ H' = [] := by
  obtain ⟨n, rfl⟩ : ∃ n : Nat, i = (n : Int) := ⟨i.toNat, by omega⟩
  exact ct_of_calls fun W _ => put_any n (by omega) W
theorem fix_ct (i : Int) (w : Nat) (h1 : 1 ≤ w ∧ w ≤ 8) (hi : 0 ≤ i ∧ i < 18446744073709551616) : Ct Try.prog 29 [.int .u64 i, .int .i64 (w : Int)] [] fun v H' => v = .string (str (fixB i.toNat w)) ∧ H' = [] := by
  obtain ⟨n, rfl⟩ : ∃ n : Nat, i = (n : Int) := ⟨i.toNat, by omega⟩
  exact ct_of_calls fun W _ => fix_any n w h1.1 h1.2 (by omega) W
theorem putB_len (n : Nat) : (putB n).length ≤ 11 := (putF_len 10 n).2
end Go.Proofs.Ytcaefeooneomnaa.blob
