/-
  Several texts in one: TurnLaw, DocSum, DocFlip, DocSum2, DocFix, DocUnfix, DocSeal, DocOpen, DocOpen2, DocGet.
-/
import Derived.Test.YtcbpeampjhegcaaSumTable
import Derived.Test.YtcbpeampjhegcaaSlStr3
import Derived.Test.YtcbpeampjhegcaaTypes
import Derived.Test.YtcbpeampjhegcaaFix
import Derived.Test.YtcbpeampjhegcaaSlU64
import Derived.Test.YtcbpeampjhegcaaFixLaw
import Derived.Test.YtcbpeampjhegcaaSeal
import Derived.Test.YtcbpeampjhegcaaSealLaw
import Derived.Test.YtcbpeampjhegcaaGetPut
/-
  The document's checksum, highest power first, is the program's, lowest bit first (no program).
-/
namespace Go.Proofs.Ytcbpeampjhegcaa.sum
open Go.RowKit kit
set_option linter.unusedVariables false
def timesB (c : BitVec 32) : BitVec 32 := if c.getLsbD 31 then (c <<< 1) ^^^ 517762881#32 else c <<< 1
theorem poly_rev : (517762881#32).reverse = 2197175160#32 := by decide +kernel
theorem rev_at (x : BitVec 32) {i : Nat} (h : i < 32) : x.reverse.getLsbD i = x.getLsbD (31 - i) := by
  rw [BitVec.getLsbD_reverse, BitVec.getMsbD_eq_getLsbD]
  simp [h]
theorem rev_xor (a b : BitVec 32) : (a ^^^ b).reverse = a.reverse ^^^ b.reverse := by
  apply BitVec.eq_of_getLsbD_eq
  intro i hi
  rw [rev_at _ hi, BitVec.getLsbD_xor, BitVec.getLsbD_xor, rev_at _ hi, rev_at _ hi]
theorem rev_rev (a : BitVec 32) : a.reverse.reverse = a := by
  apply BitVec.eq_of_getLsbD_eq
  intro i hi
  rw [rev_at _ hi, rev_at _ (by omega)]
  congr 1
  omega
theorem rev_shl (a : BitVec 32) : (a <<< 1).reverse = a.reverse >>> 1 := by
  apply BitVec.eq_of_getLsbD_eq
  intro i hi
  rw [rev_at _ hi, BitVec.getLsbD_ushiftRight, BitVec.getLsbD_shiftLeft]
  by_cases h : i = 31
  · subst h
    rw [BitVec.getLsbD_of_ge a.reverse (1 + 31) (by decide)]
    simp
  · rw [rev_at _ (by omega)]
    have e : 31 - i - 1 = 31 - (1 + i) := by omega
    rw [e]
    simp
    omega
theorem times_rev (c : BitVec 32) : (timesB c).reverse = stepB c.reverse := by
  have h0 : c.reverse.getLsbD 0 = c.getLsbD 31 := rev_at c (by decide)
  unfold timesB stepB
  rw [h0]
  split
  · rw [rev_xor, rev_shl, poly_rev]
  · rw [rev_shl]
/-- bit k of a byte -/
def bitB (b : UInt8) (k : Nat) : BitVec 32 := BitVec.ofNat 32 (b.toNat / 2 ^ k % 2)
theorem bit_rev (b : UInt8) (k : Nat) : (bitB b k <<< 31).reverse = bitB b k := by
  unfold bitB
  rcases (by omega : b.toNat / 2 ^ k % 2 = 0 ∨ b.toNat / 2 ^ k % 2 = 1) with h | h <;> rw [h] <;> decide +kernel
/-- the document's rounds, of the bits of a byte -/
def docBits (b : UInt8) (r : BitVec 32) : Nat → BitVec 32
  | 0 => r
  | k + 1 => timesB (docBits b r k ^^^ (bitB b k <<< 31))
theorem low_next (n k : Nat) (hk : k < 32) : BitVec.ofNat 32 (n % 2 ^ (k + 1)) = BitVec.ofNat 32 (n % 2 ^ k) ^^^ (BitVec.ofNat 32 (n / 2 ^ k % 2) <<< k) := by
  apply BitVec.eq_of_getLsbD_eq
  intro i hi
  rw [BitVec.getLsbD_xor, BitVec.getLsbD_shiftLeft, BitVec.getLsbD_ofNat, BitVec.getLsbD_ofNat, BitVec.getLsbD_ofNat, Nat.testBit_mod_two_pow, Nat.testBit_mod_two_pow]
  have e1 : (n / 2 ^ k % 2).testBit (i - k) = (decide (i - k = 0) && n.testBit k) := by
    rw [show (2 : Nat) = 2 ^ 1 from rfl, Nat.testBit_mod_two_pow, Nat.testBit_div_two_pow]
    by_cases h : i - k = 0
    · rw [h]; simp
    · simp [h]
  rw [e1]
  rcases Nat.lt_trichotomy i k with h | h | h
  · simp [h, hi, show i < k + 1 by omega]
  · subst h; simp [hi]
  · simp [hi, show ¬ i < k + 1 by omega, show ¬ i < k by omega, show i - k ≠ 0 by omega]
theorem doc_bits (b : UInt8) (r : BitVec 32) : ∀ k, k ≤ 8 → (docBits b r k).reverse = steps k (r.reverse ^^^ BitVec.ofNat 32 (b.toNat % 2 ^ k)) := by
  intro k
  induction k with
  | zero => intro _; simp [docBits, steps, Nat.mod_one]
  | succ k ih =>
    intro hk
    rw [docBits, times_rev, rev_xor, bit_rev, ih (by omega), low_next _ _ (by omega), ← BitVec.xor_assoc]
    have e : bitB b k = steps k (bitB b k <<< k) := by
      rw [steps_shift _ k fun i hi => by rw [BitVec.getLsbD_shiftLeft]; simp [hi]]
      apply BitVec.eq_of_getLsbD_eq
      intro i hi
      rw [BitVec.getLsbD_ushiftRight, BitVec.getLsbD_shiftLeft]
      have hb : k + i < 32 ∨ (bitB b k).getLsbD i = false := by
        rcases Nat.lt_or_ge (k + i) 32 with h | h
        · exact .inl h
        · right
          unfold bitB
          rw [BitVec.getLsbD_ofNat]
          rcases (by omega : b.toNat / 2 ^ k % 2 = 0 ∨ b.toNat / 2 ^ k % 2 = 1) with h2 | h2
          · rw [h2]; simp
          · rw [h2, show (1 : Nat) = 2 ^ 0 from rfl, Nat.testBit_two_pow]; simp; omega
      rcases hb with h | h
      · simp [h]
      · simp [h]
    rw [e, ← steps_xor]
    rfl
theorem doc_byte (b : UInt8) (r : BitVec 32) : (docBits b r 8).reverse = byteStep r.reverse b := by
  rw [doc_bits b r 8 (by decide), Nat.mod_eq_of_lt (by have := UInt8.toNat_lt b; omega)]
  rfl
/-- the document's sum -/
def docSum (c : BitVec 32) (l : List UInt8) : BitVec 32 := ~~~ (l.foldl (fun r b => docBits b r 8) (~~~ c).reverse).reverse
theorem doc_fold : ∀ (l : List UInt8) (r : BitVec 32), (l.foldl (fun r b => docBits b r 8) r).reverse = crcL r.reverse l := by
  intro l
  induction l with
  | nil => intro r; rfl
  | cons b l ih =>
    intro r
    rw [List.foldl_cons, ih, doc_byte]
    rfl
theorem doc_sum (c : BitVec 32) (l : List UInt8) : docSum c l = moreB c l := by
  unfold docSum moreB
  rw [doc_fold, rev_rev]
end Go.Proofs.Ytcbpeampjhegcaa.sum
/-
  linenref.Sum: the walk.
-/
namespace Go.Proofs.Ytcbpeampjhegcaa.sum
open Go.RowKit kit sl
set_option linter.unusedVariables false
theorem top_bit (c : BitVec 32) : c.getLsbD 31 = decide (2147483648 ≤ c.toNat) := by
  rw [← BitVec.testBit_toNat, Nat.testBit_eq_decide_div_mod_eq]
  have := c.isLt
  rw [Bool.eq_iff_iff]
  simp only [decide_eq_true_eq]
  omega
theorem shl_nat (c : BitVec 32) : ((c <<< 1).toNat : Int) = (c.toNat : Int) * 2 % 4294967296 := by
  rw [BitVec.toNat_shiftLeft, Nat.shiftLeft_eq]
  omega
attribute [local irreducible] box own sl old bptr eptr Qt Opr Run Cod Pst Drn
set_option maxRecDepth 100000 in
set_option maxHeartbeats 8000000 in
theorem times_any (c : BitVec 32) : Ct Try.prog 50 [.int .u32 (c.toNat : Int)] [] fun v H' => v = .int .u32 ((timesB c).toNat : Int) ∧ H' = [] := by
  have hc := c.isLt
  have hsh := shl_nat c
  have hx := xor32 (c <<< 1) 517762881#32
  have ht := top_bit c
  by_cases h : 2147483648 ≤ c.toNat
  · rw [decide_eq_true h] at ht
    have e : timesB c = (c <<< 1) ^^^ 517762881#32 := by unfold timesB; rw [if_pos ht]
    rw [e, ← hx, hsh]
    (refine spec_enter Try.func50 Try.ntmps50 rfl rfl fun Fr => ?_; dsimp only [List.cons_append, List.nil_append, ini, Nat.reduceAdd])
    (repeat' (first | (apply run_qg 1; (focus rfl); (focus exact wt); (focus rfl); (focus (exact qg1))) | (apply run_qg 4; (focus rfl); (focus exact wt); (focus rfl); (focus (first | exact qg4 | exact qs4))) | refine cod_seq ?_ | refine cod_region ?_ | refine run_nil ?_ | refine pst_then ?_ | (apply cod_cond_t; (focus rfl)) | refine cod_ret ?_ | refine pst_then_ret ?_))
    exact pst_fin rfl (by exact resa) _ (⟨rfl, rfl⟩) (by exact hsa)
  · rw [decide_eq_false h] at ht
    have e : timesB c = c <<< 1 := by unfold timesB; rw [if_neg (by rw [ht]; decide)]
    rw [e, show ((c <<< 1).toNat : Int) = (c.toNat : Int) * 2 by omega]
    (refine spec_enter Try.func50 Try.ntmps50 rfl rfl fun Fr => ?_; dsimp only [List.cons_append, List.nil_append, ini, Nat.reduceAdd])
    (repeat' (first | (apply run_qg 1; (focus rfl); (focus exact wt); (focus rfl); (focus (exact qg1))) | (apply run_qg 4; (focus rfl); (focus exact wt); (focus rfl); (focus (first | exact qg4 | exact qs4))) | refine cod_seq ?_ | refine cod_region ?_ | refine run_nil ?_ | refine pst_then ?_ | (apply cod_cond_f; (focus rfl)) | refine cod_ret ?_ | refine cod_skip ?_))
    exact pst_fin rfl (by exact resa) _ (⟨rfl, rfl⟩) (by exact hsa)
end Go.Proofs.Ytcbpeampjhegcaa.sum
/-
  linenref.Flip of 32 bits, linenref.turn: the plain law and the walk.
-/
namespace Go.Proofs.Ytcbpeampjhegcaa.sum
open Go.RowKit kit sl
set_option linter.unusedVariables false
theorem q_shrU {P : Program} {n : Nat} {F : Frm} {H : List Ent} {o : Oper} {x y : Operand} {T : TypeId} {k' : IntKind} {i j r : Int} {m : Nat} {T' : TypeId} (ho : o.op = .binOp .shr T x y T') (hx : ev F x = some (.int .u64 i)) (hy : ev F y = some (.int k' j)) (hj : j = (m : Int)) (hm : m ≤ 63) (hr : i / 2 ^ m = r) : Qt P n o F H (.int .u64 r) := by
  subst hr
  exact q_shr (hp := ⟨by rw [hj]; rfl, by omega, by omega⟩) ho hx hy (Nat.ble_eq_true_of_le (by simp [IntKind.bits]; omega))
theorem q_shlU {P : Program} {n : Nat} {F : Frm} {H : List Ent} {o : Oper} {x y : Operand} {T : TypeId} {k' : IntKind} {i j r : Int} {m : Nat} {T' : TypeId} (ho : o.op = .binOp .shl T x y T') (hx : ev F x = some (.int .u64 i)) (hy : ev F y = some (.int k' j)) (hj : j = (m : Int)) (hm : m ≤ 63) (hr : IntKind.u64.wrap (i * 2 ^ m) = r) : Qt P n o F H (.int .u64 r) :=
  q_shl (hp := ⟨by rw [hj]; rfl, by omega, by omega⟩) ho hx hy (Nat.ble_eq_true_of_le (by simp [IntKind.bits]; omega)) hr
def flipN (n : Nat) : Nat → Nat
  | 0 => 0
  | i + 1 => if n / 2 ^ i % 2 = 1 then flipN n i ||| 2 ^ (31 - i) else flipN n i
theorem flip_bit (n : Nat) : ∀ i, i ≤ 32 → ∀ j, (flipN n i).testBit j = (decide (j ≤ 31 ∧ 31 - j < i) && n.testBit (31 - j)) := by
  intro i
  induction i with
  | zero => intro _ j; simp [flipN]
  | succ i ih =>
    intro hi j
    have hb : n.testBit i = decide (n / 2 ^ i % 2 = 1) := Nat.testBit_eq_decide_div_mod_eq
    rw [flipN]
    by_cases h : n / 2 ^ i % 2 = 1
    · rw [if_pos h, Nat.testBit_or, ih (by omega), Nat.testBit_two_pow]
      rw [decide_eq_true h] at hb
      by_cases e : 31 - i = j
      · have e2 : 31 - j = i := by omega
        rw [e2, hb]
        simp [e]
        omega
      · have e3 : (j ≤ 31 ∧ 31 - j < i + 1) ↔ (j ≤ 31 ∧ 31 - j < i) := by omega
        simp [e, e3]
    · rw [if_neg h, ih (by omega)]
      rw [decide_eq_false h] at hb
      by_cases e : j ≤ 31 ∧ 31 - j = i
      · rw [e.2, hb]; simp
      · have e3 : (j ≤ 31 ∧ 31 - j < i + 1) ↔ (j ≤ 31 ∧ 31 - j < i) := by omega
        simp [e3]
theorem flip_rev (c : BitVec 32) : flipN c.toNat 32 = c.reverse.toNat := by
  apply Nat.eq_of_testBit_eq
  intro j
  rw [flip_bit _ _ (Nat.le_refl _), BitVec.testBit_toNat, BitVec.testBit_toNat]
  rcases Nat.lt_or_ge j 32 with h | h
  · rw [rev_at _ h, decide_eq_true (by omega), Bool.true_and]
  · rw [BitVec.getLsbD_of_ge _ _ h, decide_eq_false (by omega), Bool.false_and]
theorem flip_bd (n : Nat) (i : Nat) (h : i ≤ 32) : flipN n i < 4294967296 := by
  rw [show (4294967296 : Nat) = 2 ^ 32 from rfl]
  apply Nat.lt_pow_two_of_testBit
  intro j hj
  rw [flip_bit n i h]
  simp
  omega
attribute [local irreducible] box own sl old bptr eptr Qt Opr Run Cod Pst Drn
set_option maxRecDepth 100000 in
set_option maxHeartbeats 8000000 in
theorem flip_any (c : BitVec 32) : Ct Try.prog 54 [.int .u64 (c.toNat : Int), .int .i64 32] [] fun v H' => v = .int .u64 (c.reverse.toNat : Int) ∧ H' = [] := by
  obtain ⟨n, hn⟩ : ∃ n, c.toNat = n := ⟨_, rfl⟩
  have hF := flip_rev c
  have hc := c.isLt
  rw [hn] at hF hc ⊢
  rw [← hF]
  clear hF hn
  (refine spec_enter Try.func54 Try.ntmps54 rfl rfl fun Fr => ?_; dsimp only [List.cons_append, List.nil_append, ini, Nat.reduceAdd])
  (repeat' (first | (apply run_qg 1; (focus rfl); (focus exact wt); (focus rfl); (focus (exact qg1))) | (apply run_qg 4; (focus rfl); (focus exact wt); (focus rfl); (focus (first | exact qg4 | exact qs4))) | refine cod_seq ?_ | refine cod_region ?_ | refine run_nil ?_ | refine pst_then ?_ | (apply cod_cond_f; (focus rfl)) | refine cod_block ?_ | refine cod_skip ?_))
  (refine cod_loop_ro (σ := Nat) (fun i => i ≤ 32) (fun i => [(12, .int .i64 (i : Int)), (5, .int .u64 ((flipN n i : Nat) : Int))]) (fun i => 32 - i) (0) (by exact Nat.zero_le _) (by exact fsa) (fun i hi => ?_); dsimp only [List.cons_append, List.nil_append])
  have hb := flip_bd n i hi
  rcases Nat.lt_or_ge i 32 with hlt | hge
  · have r1 : (n : Int) / 2 ^ i = ((n / 2 ^ i : Nat) : Int) := by rw [Int.natCast_ediv, Int.natCast_pow]; rfl
    have hd : n / 2 ^ i ≤ n := Nat.div_le_self _ _
    have hfn : flipN n (i + 1) = if n / 2 ^ i % 2 = 1 then flipN n i ||| 2 ^ (31 - i) else flipN n i := rfl
    have r2 : bits BinOp.and .u64 ((n / 2 ^ i : Nat) : Int) 1 = (((n / 2 ^ i) % 2 : Nat) : Int) := by
      rw [show (1 : Int) = ((1 : Nat) : Int) from rfl, u64_and_nat _ _ (by omega) (by decide), Nat.and_one_is_mod]
    have r3 : (32 : Int) - 1 - (i : Int) = ((31 - i : Nat) : Int) := by omega
    have hp : 2 ^ (31 - i) < 4294967296 := Nat.lt_of_le_of_lt (Nat.pow_le_pow_right (by decide) (by omega : 31 - i ≤ 31)) (by decide)
    have r4 : IntKind.u64.wrap (1 * 2 ^ (31 - i)) = ((2 ^ (31 - i) : Nat) : Int) := by
      rw [Int.one_mul, show ((2 : Int) ^ (31 - i)) = ((2 ^ (31 - i) : Nat) : Int) by rw [Int.natCast_pow]; rfl]
      generalize 2 ^ (31 - i) = p at hp ⊢
      exact wr_u64 (by omega)
    have r5 : bits BinOp.or .u64 ((flipN n i : Nat) : Int) ((2 ^ (31 - i) : Nat) : Int) = ((flipN n i ||| 2 ^ (31 - i) : Nat) : Int) := by
      rw [u64_or_nat _ _ (by omega) (by omega)]
    generalize n / 2 ^ i = d at *
    by_cases h1 : d % 2 = 1
    · rw [if_pos h1] at hfn
      rw [h1] at r2
      (repeat' (first | (apply run_qg 1; (focus rfl); (focus exact wt); (focus rfl); (focus (exact qg1))) | (apply run_qg 4; (focus rfl); (focus exact wt); (focus rfl); (focus (first | exact qg4 | exact qs4))) | refine cod_seq ?_ | refine cod_region ?_ | refine run_nil ?_ | refine pst_then ?_ | (apply cod_cond_t; (focus rfl)) | refine cod_block ?_ | refine cod_skip ?_))
      refine run_qs wt rfl (q_shrU (m := i) rfl rfl rfl rfl (by omega) r1) ?_
      (repeat' (first | (apply run_qg 1; (focus rfl); (focus exact wt); (focus rfl); (focus (exact qg1))) | (apply run_qg 4; (focus rfl); (focus exact wt); (focus rfl); (focus (first | exact qg4 | exact qs4))) | refine cod_region ?_ | refine run_nil ?_ | refine pst_then ?_ | (apply cod_cond_t; (focus rfl))))
      rw [r3]
      refine run_qs wt rfl (q_shlU (m := 31 - i) rfl rfl rfl rfl (by omega) r4) ?_
      (repeat' (first | (apply run_qg 1; (focus rfl); (focus exact wt); (focus rfl); (focus (exact qg1))) | (apply run_qg 4; (focus rfl); (focus exact wt); (focus rfl); (focus (first | exact qg4 | exact qs4))) | refine cod_region ?_ | refine run_nil ?_ | refine pst_then ?_ | refine pst_block ?_))
      rw [← hfn]
      refine pst_again (i + 1) ?_ (FSub.of (by (try dsimp only); exact fsa)) (by (try dsimp only); exact hsa) ?_
      · omega
      · omega
    · rw [if_neg h1] at hfn
      have h0 : d % 2 = 0 := by omega
      rw [h0] at r2
      rw [← hfn]
      (repeat' (first | (apply run_qg 1; (focus rfl); (focus exact wt); (focus rfl); (focus (exact qg1))) | (apply run_qg 4; (focus rfl); (focus exact wt); (focus rfl); (focus (first | exact qg4 | exact qs4))) | refine cod_seq ?_ | refine cod_region ?_ | refine run_nil ?_ | refine pst_then ?_ | (apply cod_cond_t; (focus rfl)) | refine cod_block ?_ | refine cod_skip ?_))
      refine run_qs wt rfl (q_shrU (m := i) rfl rfl rfl rfl (by omega) r1) ?_
      (repeat' (first | (apply run_qg 1; (focus rfl); (focus exact wt); (focus rfl); (focus (exact qg1))) | (apply run_qg 4; (focus rfl); (focus exact wt); (focus rfl); (focus (first | exact qg4 | exact qs4))) | refine cod_region ?_ | refine run_nil ?_ | refine pst_then ?_ | (apply cod_cond_f; (focus rfl)) | refine cod_skip ?_ | refine pst_block ?_))
      refine pst_again (i + 1) ?_ (FSub.of (by (try dsimp only); exact fsa)) (by (try dsimp only); exact hsa) ?_
      · omega
      · omega
  · have : i = 32 := by omega
    subst this
    (repeat' (first | (apply run_qg 1; (focus rfl); (focus exact wt); (focus rfl); (focus (exact qg1))) | (apply run_qg 4; (focus rfl); (focus exact wt); (focus rfl); (focus (first | exact qg4 | exact qs4))) | refine cod_seq ?_ | refine cod_region ?_ | refine run_nil ?_ | refine pst_then ?_ | (apply cod_cond_f; (focus rfl)) | refine cod_exit ?_ | refine cod_ret ?_ | refine pst_block_here ?_ | refine pst_then_exit ?_))
    exact pst_fin rfl (by exact resa) _ (⟨rfl, rfl⟩) (by exact hsa)
set_option maxRecDepth 100000 in
set_option maxHeartbeats 8000000 in
theorem turn_any (c : BitVec 32) : Ct Try.prog 49 [.int .u32 (c.toNat : Int)] [] fun v H' => v = .int .u32 (c.reverse.toNat : Int) ∧ H' = [] := by
  have F0 := flip_any c
  have hc := c.isLt
  have hr := c.reverse.isLt
  have hc2 : (c.toNat : Int) ≤ 4294967295 := by omega
  have hr2 : (c.reverse.toNat : Int) ≤ 4294967295 := by omega
  have hc3 : 0 ≤ (c.toNat : Int) := Int.natCast_nonneg _
  have hr3 : 0 ≤ (c.reverse.toNat : Int) := Int.natCast_nonneg _
  generalize (c.toNat : Int) = x at *
  generalize (c.reverse.toNat : Int) = y at *
  clear hc hr
  (refine spec_enter Try.func49 Try.ntmps49 rfl rfl fun Fr => ?_; dsimp only [List.cons_append, List.nil_append, ini, Nat.reduceAdd])
  (repeat' (first | (apply run_qg 1; (focus rfl); (focus exact wt); (focus rfl); (focus (exact qg1))) | (apply run_qg 11; (focus rfl); (focus exact wt); (focus rfl); (focus (exact qs11))) | refine cod_seq ?_ | refine cod_region ?_ | refine run_nil ?_ | refine pst_then ?_ | refine cod_ret ?_ | (apply run_osg 7; (focus rfl); (focus exact wt); (focus rfl); (focus (exact opr_call_ls (by rfl) (F0 ..) (by rfl) lpa)); (rintro _ _ ⟨rfl, rfl⟩))))
  exact pst_fin rfl (by exact resa) _ (⟨rfl, rfl⟩) (by exact hsa)
end Go.Proofs.Ytcbpeampjhegcaa.sum
/-
  linenref.Sum: the walk.
-/
namespace Go.Proofs.Ytcbpeampjhegcaa.sum
open Go.RowKit kit sl
set_option linter.unusedVariables false
theorem q_com {P : Program} {n : Nat} {F : Frm} {H : List Ent} {o : Oper} {x : Operand} {T : TypeId} {i r : Int} (ho : o.op = .unOp .xor T x) (hx : ev F x = some (.int .u32 i)) (hr : bits BinOp.xor .u32 IntKind.u32.max i = r) : Qt P n o F H (.int .u32 r) := fun a w ha _ => by
  subst hr
  simp [execOp, ho, ha.eval hx, Op.unary]
  rfl
theorem q_shrB {P : Program} {n : Nat} {F : Frm} {H : List Ent} {o : Oper} {x y : Operand} {T : TypeId} {k k' : IntKind} {i j r : Int} {m : Nat} {T' : TypeId} (ho : o.op = .binOp .shr T x y T') (hx : ev F x = some (.int k i)) (hy : ev F y = some (.int k' j)) (hj : j = (m : Int)) (hm : m ≤ 8) (hr : i / 2 ^ m = r) : Qt P n o F H (.int k r) := by
  subst hr
  exact q_shr (hp := ⟨by rw [hj]; rfl, by omega, by omega⟩) ho hx hy (Nat.ble_eq_true_of_le (by cases k <;> simp [IntKind.bits] <;> omega))
theorem u8_one (a : Nat) (ha : a < 256) : bits BinOp.and .u8 (a : Int) 1 = ((a % 2 : Nat) : Int) := by
  have : ∀ a : Fin 256, bits BinOp.and .u8 ((a.val : Nat) : Int) 1 = ((a.val % 2 : Nat) : Int) := by decide +kernel
  exact this ⟨a, ha⟩
def docF (r : BitVec 32) (l : List UInt8) : BitVec 32 := l.foldl (fun r b => docBits b r 8) r
theorem docF_add (r : BitVec 32) (l : List UInt8) (b : UInt8) : docF r (l ++ [b]) = docBits b (docF r l) 8 := by simp [docF]
theorem bit_top (b : UInt8) (k : Nat) : ((b.toNat / 2 ^ k % 2 : Nat) : Int) * 2147483648 = ((bitB b k <<< 31).toNat : Int) := by
  unfold bitB
  rcases (by omega : b.toNat / 2 ^ k % 2 = 0 ∨ b.toNat / 2 ^ k % 2 = 1) with h | h <;> rw [h] <;> decide +kernel
attribute [local irreducible] box own sl old bptr eptr Qt Opr Run Cod Pst Drn
set_option maxRecDepth 100000 in
set_option maxHeartbeats 8000000 in
theorem docsum_any (c : BitVec 32) (l : List UInt8) (hl : l.length ≤ 1000000000000) : Ct Try.prog 40 [.int .u32 (c.toNat : Int), .string (str l)] [] fun v H' => v = .int .u32 ((moreB c l).toNat : Int) ∧ H' = [] := by
  rw [← doc_sum]
  show Ct _ _ _ _ fun v H' => v = .int .u32 ((~~~ (docF (~~~ c).reverse l).reverse).toNat : Int) ∧ H' = []
  have n1 := not32 c
  have T1 := turn_any (~~~ c)
  obtain ⟨r0, hr0⟩ : ∃ r0, (~~~ c).reverse = r0 := ⟨_, rfl⟩
  rw [hr0] at T1 ⊢
  have T2 := turn_any (docF r0 l)
  have n2 := not32 (docF r0 l).reverse
  (refine spec_enter Try.func40 Try.ntmps40 rfl rfl fun Fr => ?_; dsimp only [List.cons_append, List.nil_append, ini, Nat.reduceAdd])
  (repeat' (first | (apply run_qg 1; (focus rfl); (focus exact wt); (focus rfl); (focus (exact qg1))) | refine cod_seq ?_ | refine cod_region ?_ | refine run_nil ?_ | refine pst_then ?_))
  refine run_qs wt rfl (q_com rfl rfl n1) ?_
  (repeat' (first | (apply run_qg 1; (focus rfl); (focus exact wt); (focus rfl); (focus (exact qg1))) | (apply run_qg 6; (focus rfl); (focus exact wt); (focus rfl); (focus (first | exact qs6 | exact qg6 | exact q_max rfl rfl rfl | exact q_sliceData rfl rfl (by omega) | exact q_sliceDataN rfl rfl | exact q_unsafeStringN rfl rfl rfl | exact q_cap_slice rfl rfl))) | refine cod_seq ?_ | refine cod_region ?_ | refine run_nil ?_ | refine pst_then ?_ | refine cod_block ?_ | (apply run_osg 7; (focus rfl); (focus exact wt); (focus rfl); (focus (exact opr_call_ls (by rfl) (T1 ..) (by rfl) lpa)); (rintro _ _ ⟨rfl, rfl⟩))))
  (refine cod_loop_ro (σ := Nat) (fun i => i ≤ l.length) (fun i => [(13, .int .i64 (i : Int)), (5, .int .u32 ((docF r0 (l.take i)).toNat : Int))]) (fun i => l.length - i) (0) (by exact Nat.zero_le _) (by exact fsa) (fun i hi => ?_); dsimp only [List.cons_append, List.nil_append])
  rcases Nat.lt_or_ge i l.length with hlt | hge
  · obtain ⟨b, hb⟩ : ∃ b, l[i]? = some b := ⟨_, List.getElem?_eq_getElem hlt⟩
    have ht : l.take (i + 1) = l.take i ++ [b] := by rw [List.take_add_one, hb]; rfl
    have hf := docF_add r0 (l.take i) b
    rw [← ht] at hf
    obtain ⟨r, hr⟩ : ∃ r, docF r0 (l.take i) = r := ⟨_, rfl⟩
    rw [hr] at hf ⊢
    have hb8 := UInt8.toNat_lt b
    (repeat' (first | (apply run_qg 1; (focus rfl); (focus exact wt); (focus rfl); (focus (exact qg1))) | (apply run_qg 4; (focus rfl); (focus exact wt); (focus rfl); (focus (first | exact qg4 | exact qs4))) | refine cod_seq ?_ | refine cod_region ?_ | refine run_nil ?_ | refine pst_then ?_ | (apply cod_cond_t; (focus rfl)) | refine cod_block ?_ | refine cod_skip ?_))
    (refine cod_loop_ro (σ := Nat) (fun k => k ≤ 8) (fun k => [(16, .int .i64 (k : Int)), (5, .int .u32 ((docBits b r k).toNat : Int))]) (fun k => 8 - k) (0) (by exact Nat.zero_le _) (by exact fsa) (fun k hk => ?_); dsimp only [List.cons_append, List.nil_append])
    rcases Nat.lt_or_ge k 8 with hlk | hgk
    · have s1 : (b.toNat : Int) / 2 ^ k = ((b.toNat / 2 ^ k : Nat) : Int) := by rw [Int.natCast_ediv, Int.natCast_pow]; rfl
      have s2 := u8_one (b.toNat / 2 ^ k) (Nat.lt_of_le_of_lt (Nat.div_le_self _ _) hb8)
      have s3 := bit_top b k
      have s4 := xor32 (docBits b r k) (bitB b k <<< 31)
      rw [← s3] at s4
      have hv : ((b.toNat / 2 ^ k % 2 : Nat) : Int) ≤ 1 ∧ 0 ≤ ((b.toNat / 2 ^ k % 2 : Nat) : Int) := by omega
      have TM := times_any (docBits b r k ^^^ (bitB b k <<< 31))
      have hnx : timesB (docBits b r k ^^^ (bitB b k <<< 31)) = docBits b r (k + 1) := rfl
      rw [hnx] at TM
      generalize ((b.toNat / 2 ^ k % 2 : Nat) : Int) = v at *
      (repeat' (first | (apply run_qg 1; (focus rfl); (focus exact wt); (focus rfl); (focus (exact qg1))) | (apply run_qg 3; (focus rfl); (focus exact wt); (focus rfl); (focus (first | exact qg3 | exact qs3))) | (apply run_qg 4; (focus rfl); (focus exact wt); (focus rfl); (focus (first | exact qg4 | exact qs4))) | refine cod_seq ?_ | refine cod_region ?_ | refine run_nil ?_ | refine pst_then ?_ | (apply cod_cond_t; (focus rfl)) | refine cod_block ?_ | refine cod_skip ?_))
      refine run_qs wt rfl (q_shrB (m := k) rfl rfl rfl rfl (by omega) s1) ?_
      (repeat' (first | (apply run_qg 1; (focus rfl); (focus exact wt); (focus rfl); (focus (exact qg1))) | (apply run_qg 4; (focus rfl); (focus exact wt); (focus rfl); (focus (first | exact qg4 | exact qs4))) | (apply run_qg 11; (focus rfl); (focus exact wt); (focus rfl); (focus (exact qs11))) | refine cod_region ?_ | refine run_nil ?_ | refine pst_then ?_ | refine pst_block ?_ | (apply run_osg 7; (focus rfl); (focus exact wt); (focus rfl); (focus (exact opr_call_ls (by rfl) (TM ..) (by rfl) lpa)); (rintro _ _ ⟨rfl, rfl⟩))))
      refine pst_again (k + 1) ?_ (FSub.of (by (try dsimp only); exact fsa)) (by (try dsimp only); exact hsa) ?_
      · omega
      · omega
    · have : k = 8 := by omega
      subst this
      rw [← hf]
      (repeat' (first | (apply run_qg 1; (focus rfl); (focus exact wt); (focus rfl); (focus (exact qg1))) | (apply run_qg 4; (focus rfl); (focus exact wt); (focus rfl); (focus (first | exact qg4 | exact qs4))) | refine cod_seq ?_ | refine cod_region ?_ | refine run_nil ?_ | refine pst_then ?_ | (apply cod_cond_f; (focus rfl)) | refine cod_exit ?_ | refine pst_block_here ?_ | refine pst_then_exit ?_ | refine pst_block ?_))
      refine pst_again (i + 1) ?_ (FSub.of (by (try dsimp only); exact fsa)) (by (try dsimp only); exact hsa) ?_
      · omega
      · omega
  · have : i = l.length := by omega
    subst this
    rw [List.take_length]
    (repeat' (first | (apply run_qg 1; (focus rfl); (focus exact wt); (focus rfl); (focus (exact qg1))) | (apply run_qg 4; (focus rfl); (focus exact wt); (focus rfl); (focus (first | exact qg4 | exact qs4))) | refine cod_seq ?_ | refine cod_region ?_ | refine run_nil ?_ | refine pst_then ?_ | (apply cod_cond_f; (focus rfl)) | refine cod_exit ?_ | refine pst_block_here ?_ | refine pst_then_exit ?_ | (apply run_osg 7; (focus rfl); (focus exact wt); (focus rfl); (focus (exact opr_call_ls (by rfl) (T2 ..) (by rfl) lpa)); (rintro _ _ ⟨rfl, rfl⟩))))
    refine run_qs wt rfl (q_com rfl rfl n2) ?_
    (repeat' (first | (apply run_qg 1; (focus rfl); (focus exact wt); (focus rfl); (focus (exact qg1))) | refine run_nil ?_ | refine pst_then ?_ | refine cod_ret ?_))
    exact pst_fin rfl (by exact resa) _ (⟨rfl, rfl⟩) (by exact hsa)
end Go.Proofs.Ytcbpeampjhegcaa.sum
/-
  linenref.backward, linenref.Fix: the walks.
-/
namespace Go.Proofs.Ytcbpeampjhegcaa.sum
open Go.RowKit kit sl
set_option linter.unusedVariables false
attribute [local irreducible] box own sl old bptr eptr Qt Opr Run Cod Pst Drn
set_option maxRecDepth 100000 in
set_option maxHeartbeats 8000000 in
theorem back_any (l : List UInt8) (hl : l.length ≤ 1000000000000) : Ct Try.prog 39 [.string (str l)] [] fun v H' => v = .string (str l.reverse) ∧ H' = [] := by
  (refine spec_enter Try.func39 Try.ntmps39 rfl rfl fun Fr => ?_; dsimp only [List.cons_append, List.nil_append, ini, Nat.reduceAdd])
  (repeat' (first | (apply run_qg 1; (focus rfl); (focus exact wt); (focus rfl); (focus (exact qg1))) | (apply run_qg 6; (focus rfl); (focus exact wt); (focus rfl); (focus (first | exact qs6 | exact qg6 | exact q_max rfl rfl rfl | exact q_sliceData rfl rfl (by omega) | exact q_sliceDataN rfl rfl | exact q_unsafeStringN rfl rfl rfl | exact q_cap_slice rfl rfl))) | refine cod_seq ?_ | refine cod_region ?_ | refine run_nil ?_ | refine pst_then ?_ | refine cod_block ?_))
  (refine cod_loop_ro (σ := Nat) (fun i => i ≤ l.length) (fun i => [(7, .int .i64 (i : Int)), (3, .string (str (l.take i).reverse))]) (fun i => l.length - i) (0) (by exact Nat.zero_le _) (by exact fsa) (fun i hi => ?_); dsimp only [List.cons_append, List.nil_append])
  rcases Nat.lt_or_ge i l.length with hlt | hge
  · obtain ⟨b, hb⟩ : ∃ b, l[i]? = some b := ⟨_, List.getElem?_eq_getElem hlt⟩
    have ht : [b] ++ (l.take i).reverse = (l.take (i + 1)).reverse := by rw [List.take_add_one, hb, List.reverse_append]; rfl
    have hc : (l.drop i).take (i + 1 - i) = [b] := by
      obtain ⟨h1, h2⟩ := List.getElem?_eq_some_iff.1 hb
      rw [show i + 1 - i = 1 by omega, List.drop_eq_getElem_cons h1, h2]
      rfl
    have hlt2 : (l.take i).reverse.length = i := by rw [List.length_reverse, List.length_take]; omega
    generalize (l.take i).reverse = r at *
    (repeat' (first | (apply run_qg 1; (focus rfl); (focus exact wt); (focus rfl); (focus (exact qg1))) | (apply run_qg 4; (focus rfl); (focus exact wt); (focus rfl); (focus (first | exact qg4 | exact qs4))) | (apply run_qg 12; (focus rfl); (focus exact wt); (focus rfl); (focus (first | exact qs12 | exact q_cutp rfl rfl rfl rfl (by omega) (by omega) | exact q_slice_cap rfl rfl rfl rfl (by omega)))) | refine cod_seq ?_ | refine cod_region ?_ | refine run_nil ?_ | refine pst_then ?_ | (apply cod_cond_t; (focus rfl)) | refine cod_block ?_ | refine cod_skip ?_ | refine pst_block ?_))
    rw [ht]
    refine pst_again (i + 1) ?_ (FSub.of (by (try dsimp only); exact fsa)) (by (try dsimp only); exact hsa) ?_
    · omega
    · omega
  · have : i = l.length := by omega
    subst this
    rw [List.take_length]
    (repeat' (first | (apply run_qg 1; (focus rfl); (focus exact wt); (focus rfl); (focus (exact qg1))) | (apply run_qg 4; (focus rfl); (focus exact wt); (focus rfl); (focus (first | exact qg4 | exact qs4))) | refine cod_seq ?_ | refine cod_region ?_ | refine run_nil ?_ | refine pst_then ?_ | (apply cod_cond_f; (focus rfl)) | refine cod_exit ?_ | refine cod_ret ?_ | refine pst_block_here ?_ | refine pst_then_exit ?_))
    exact pst_fin rfl (by exact resa) _ (⟨rfl, rfl⟩) (by exact hsa)
set_option maxRecDepth 100000 in
set_option maxHeartbeats 8000000 in
theorem docfix_any (n w : Nat) (hn : n < 18446744073709551616) (hw : 1 ≤ w ∧ w ≤ 8) : Ct Try.prog 38 [.int .u64 (n : Int), .int .i64 (w : Int)] [] fun v H' => v = .string (str (Go.Proofs.Ytcbpeampjhegcaa.fix.fixB n w)) ∧ H' = [] := by
  (refine spec_enter Try.func38 Try.ntmps38 rfl rfl fun Fr => ?_; dsimp only [List.cons_append, List.nil_append, ini, Nat.reduceAdd])
  (repeat' (first | (apply run_qg 1; (focus rfl); (focus exact wt); (focus rfl); (focus (exact qg1))) | (apply run_qg 4; (focus rfl); (focus exact wt); (focus rfl); (focus (first | exact qg4 | exact qs4))) | refine cod_seq ?_ | refine cod_region ?_ | refine run_nil ?_ | refine pst_then ?_ | (apply cod_cond_f; (focus rfl)) | refine cod_block ?_ | refine cod_skip ?_))
  (refine cod_loop_ro (σ := Nat × Nat) (fun x => x.1 ≤ w ∧ x.2 = n / 256 ^ x.1) (fun x => [(13, .int .i64 (x.1 : Int)), (0, .int .u64 (x.2 : Int)), (5, .string (str (Go.Proofs.Ytcbpeampjhegcaa.fix.fixB n x.1)))]) (fun x => w - x.1) ((0, n)) (by exact ⟨Nat.zero_le _, (Nat.div_one n).symm⟩) (by exact fsa) (fun ⟨i, d⟩ ⟨hi, hd⟩ => ?_); dsimp only [List.cons_append, List.nil_append])
  dsimp only at hi hd ⊢
  have hfl := Go.Proofs.Ytcbpeampjhegcaa.fix.fixB_len n i
  have hdn : d ≤ n := by rw [hd]; exact Nat.div_le_self _ _
  rcases Nat.lt_or_ge i w with hlt | hge
  · have hq : d / 256 = n / 256 ^ (i + 1) := by rw [hd, Nat.pow_succ, ← Nat.div_div_eq_div_mul]
    have hf : [UInt8.ofNat (d % 256)] ++ Go.Proofs.Ytcbpeampjhegcaa.fix.fixB n i = Go.Proofs.Ytcbpeampjhegcaa.fix.fixB n (i + 1) := by rw [hd]; rfl
    have hv : (d : Int) % 256 = ((UInt8.ofNat (d % 256)).toNat : Int) := by
      have h8 : (UInt8.ofNat (d % 256)).toNat = d % 256 := by rw [UInt8.toNat_ofNat']; omega
      rw [h8]; omega
    generalize UInt8.ofNat (d % 256) = b at *
    have hb8 := UInt8.toNat_lt b
    have hm : List.map (fun z : Int => UInt8.ofNat z.toNat) [(b.toNat : Int)] = [b] := by simp
    (repeat' (first | (apply run_qg 1; (focus rfl); (focus exact wt); (focus rfl); (focus (exact qg1))) | (apply run_qg 4; (focus rfl); (focus exact wt); (focus rfl); (focus (first | exact qg4 | exact qs4))) | refine cod_seq ?_ | refine cod_region ?_ | refine run_nil ?_ | refine pst_then ?_ | (apply cod_cond_t; (focus rfl)) | refine cod_block ?_ | refine cod_skip ?_))
    refine run_qs wt rfl (q_rem64 rfl rfl rfl (by omega)) ?_
    rw [hv]
    (repeat' (first | (apply run_qg 1; (focus rfl); (focus exact wt); (focus rfl); (focus (exact qg1))) | (apply run_qg 4; (focus rfl); (focus exact wt); (focus rfl); (focus (first | exact qg4 | exact qs4))) | (apply run_qg 11; (focus rfl); (focus exact wt); (focus rfl); (focus (exact qs11))) | refine cod_region ?_ | refine run_nil ?_ | refine pst_then ?_ | (apply run_osg 10; (focus rfl); (focus exact wt); (focus rfl); (focus (exact opr_buildSlice rfl rfl rfl (by exact blda) rfl rfl (by decide) rfl)); (rintro _ _ ⟨q, rfl, rfl⟩))))
    refine run_qs wt rfl (q_quo64 rfl rfl rfl (by omega)) ?_
    rw [hf, show (d : Int) / 256 = ((d / 256 : Nat) : Int) from rfl]
    (repeat' (first | (apply run_qg 1; (focus rfl); (focus exact wt); (focus rfl); (focus (exact qg1))) | (apply run_qg 4; (focus rfl); (focus exact wt); (focus rfl); (focus (first | exact qg4 | exact qs4))) | refine cod_region ?_ | refine run_nil ?_ | refine pst_then ?_ | refine pst_block ?_))
    refine pst_again ((i + 1, d / 256)) ?_ (FSub.of (by (try dsimp only); exact fsa)) (by (try dsimp only); exact hsa) ?_
    · exact ⟨hlt, hq⟩
    · dsimp only; omega
  · have : i = w := by omega
    subst this
    (repeat' (first | (apply run_qg 1; (focus rfl); (focus exact wt); (focus rfl); (focus (exact qg1))) | (apply run_qg 4; (focus rfl); (focus exact wt); (focus rfl); (focus (first | exact qg4 | exact qs4))) | refine cod_seq ?_ | refine cod_region ?_ | refine run_nil ?_ | refine pst_then ?_ | (apply cod_cond_f; (focus rfl)) | refine cod_exit ?_ | refine cod_ret ?_ | refine pst_block_here ?_ | refine pst_then_exit ?_))
    exact pst_fin rfl (by exact resa) _ (⟨rfl, rfl⟩) (by exact hsa)
end Go.Proofs.Ytcbpeampjhegcaa.sum
/-
  linenref.Unfix of four bytes at most: the walk.
-/
namespace Go.Proofs.Ytcbpeampjhegcaa.sum
open Go.RowKit kit sl Go.Proofs.Ytcbpeampjhegcaa.fix Go.Proofs.Ytcbpeampjhegcaa.fixl
set_option linter.unusedVariables false
attribute [local irreducible] box own sl old bptr eptr Qt Opr Run Cod Pst Drn
set_option maxRecDepth 100000 in
set_option maxHeartbeats 8000000 in
theorem docunfix_any (l : List UInt8) (hl : l.length ≤ 4) : Ct Try.prog 28 [.string (str l)] [] fun v H' => v = .tuple #[.int .u64 ((unfixN l : Nat) : Int), .int .i64 0] ∧ H' = [] := by
  (refine spec_enter Try.func28 Try.ntmps28 rfl rfl fun Fr => ?_; dsimp only [List.cons_append, List.nil_append, ini, Nat.reduceAdd])
  (repeat' (first | (apply run_qg 1; (focus rfl); (focus exact wt); (focus rfl); (focus (exact qg1))) | (apply run_qg 4; (focus rfl); (focus exact wt); (focus rfl); (focus (first | exact qg4 | exact qs4))) | (apply run_qg 6; (focus rfl); (focus exact wt); (focus rfl); (focus (first | exact qs6 | exact qg6 | exact q_max rfl rfl rfl | exact q_sliceData rfl rfl (by omega) | exact q_sliceDataN rfl rfl | exact q_unsafeStringN rfl rfl rfl | exact q_cap_slice rfl rfl))) | refine cod_seq ?_ | refine cod_region ?_ | refine run_nil ?_ | refine pst_then ?_ | (apply cod_cond_f; (focus rfl)) | refine cod_block ?_ | refine cod_skip ?_))
  (refine cod_loop_ro (σ := Nat × Nat × Nat) (fun x => (x.1 ≤ l.length ∧ x.2.1 = 256 ^ (l.length - x.1)) ∧ x.2.2 = unfixN (l.drop x.1)) (fun x => [(6, .int .i64 ((x.1 : Int) - 1)), (5, .int .u64 (x.2.1 : Int)), (4, .int .u64 (x.2.2 : Int))]) (fun x => x.1) ((l.length, 1, 0)) (by exact ⟨⟨Nat.le_refl _, by dsimp only; rw [Nat.sub_self, Nat.pow_zero]⟩, by dsimp only; rw [List.drop_length]; rfl⟩) (by exact fsa) (fun ⟨m, pw, out⟩ ⟨⟨hm, hpw⟩, hout⟩ => ?_); dsimp only [List.cons_append, List.nil_append])
  dsimp only at hm hpw hout ⊢
  have hob : out < 4294967296 := by
    rw [hout]
    refine Nat.lt_of_lt_of_le (unfixN_lt _) ?_
    exact Nat.le_trans (Nat.pow_le_pow_right (by decide) (by rw [List.length_drop]; omega : (l.drop m).length ≤ 4)) (by decide)
  cases m with
  | zero =>
    rw [List.drop_zero] at hout
    rw [← hout]
    (repeat' (first | (apply run_qg 1; (focus rfl); (focus exact wt); (focus rfl); (focus (exact qg1))) | (apply run_qg 4; (focus rfl); (focus exact wt); (focus rfl); (focus (first | exact qg4 | exact qs4))) | refine cod_seq ?_ | refine cod_region ?_ | refine run_nil ?_ | refine pst_then ?_ | (apply cod_cond_f; (focus rfl)) | refine cod_exit ?_ | refine cod_ret ?_ | refine pst_block_here ?_ | refine pst_then_exit ?_))
    exact pst_fin rfl (by exact resa) _ (⟨rfl, rfl⟩) (by exact hsa)
  | succ k =>
    have hk : ((k + 1 : Nat) : Int) - 1 = (k : Int) := by omega
    rw [hk]
    obtain ⟨b, hb⟩ : ∃ b, l[k]? = some b := ⟨_, List.getElem?_eq_getElem (by omega)⟩
    have hpb : pw ≤ 16777216 := by
      rw [hpw]
      exact Nat.le_trans (Nat.pow_le_pow_right (by decide) (by omega : l.length - (k + 1) ≤ 3)) (by decide)
    have hb8 := UInt8.toNat_lt b
    have hmul : b.toNat * pw ≤ 255 * 16777216 := Nat.mul_le_mul (by omega) hpb
    have e : (out : Int) + (b.toNat : Int) * (pw : Int) = ((b.toNat * pw + out : Nat) : Int) := by rw [Int.natCast_add, Int.natCast_mul, Int.add_comm]
    have hmI : (b.toNat : Int) * (pw : Int) ≤ 255 * 16777216 ∧ 0 ≤ (b.toNat : Int) * (pw : Int) := by rw [← Int.natCast_mul]; omega
    have hn : b.toNat * pw + out = unfixN (l.drop k) := by
      obtain ⟨h1, h2⟩ := List.getElem?_eq_some_iff.1 hb
      rw [List.drop_eq_getElem_cons h1, h2, unfix_cons, List.length_drop, ← hpw, ← hout]
    have hp2 : pw * 256 = 256 ^ (l.length - k) := by rw [hpw, ← Nat.pow_succ]; congr 1; omega
    (repeat' (first | (apply run_qg 1; (focus rfl); (focus exact wt); (focus rfl); (focus (exact qg1))) | (apply run_qg 3; (focus rfl); (focus exact wt); (focus rfl); (focus (first | exact qg3 | exact qs3))) | (apply run_qg 4; (focus rfl); (focus exact wt); (focus rfl); (focus (first | exact qg4 | exact qs4))) | (apply run_qg 11; (focus rfl); (focus exact wt); (focus rfl); (focus (exact qs11))) | refine cod_seq ?_ | refine cod_region ?_ | refine run_nil ?_ | refine pst_then ?_ | (apply cod_cond_t; (focus rfl)) | refine cod_block ?_ | refine cod_skip ?_ | refine pst_block ?_))
    rw [e]
    refine pst_again ((k, pw * 256, b.toNat * pw + out)) ?_ (FSub.of (by (try dsimp only); exact fsa)) (by (try dsimp only); exact hsa) ?_
    · exact ⟨⟨by dsimp only; omega, hp2⟩, hn⟩
    · dsimp only; omega
end Go.Proofs.Ytcbpeampjhegcaa.sum
/-
  linenref.Seal of what fits: the walk.
-/
namespace Go.Proofs.Ytcbpeampjhegcaa.seal
open Go.RowKit kit sl Go.Proofs.Ytcbpeampjhegcaa.fix Go.Proofs.Ytcbpeampjhegcaa.sum
set_option linter.unusedVariables false
theorem four_rev (n : Nat) (hn : n < 4294967296) : (fixB n 4).reverse = four (n : Int) := by
  unfold four
  simp only [fixB, List.reverse_cons, List.reverse_nil, List.nil_append, List.cons_append, List.map_cons, List.map_nil]
  have e0 : ((n : Int) % 256).toNat = n / 256 ^ 0 % 256 := by omega
  have e1 : ((n : Int) / 256 % 256).toNat = n / 256 ^ 1 % 256 := by omega
  have e2 : ((n : Int) / 65536 % 256).toNat = n / 256 ^ 2 % 256 := by omega
  have e3 : ((n : Int) / 16777216).toNat = n / 256 ^ 3 % 256 := by omega
  rw [e0, e1, e2, e3]
attribute [local irreducible] box own sl old bptr eptr Qt Opr Run Cod Pst Drn
set_option maxRecDepth 100000 in
set_option maxHeartbeats 8000000 in
theorem docseal_any (k n : Nat) (b : List UInt8) (hk : k = 1 ∨ k = 2) (hn : n ≤ 2147483647) (hb : b.length ≤ 1000) : Ct Try.prog 41 [.int .i64 (k : Int), .int .i64 (n : Int), .string (str b)] [] fun v H' => v = .tuple #[.string (str (sealB (k : Int) (n : Int) b)), .int .i64 0] ∧ H' = [] := by
  have F1 := docfix_any k 1 (by omega) (by omega)
  have F2 := docfix_any n 4 (by omega) (by omega)
  have F3 := docfix_any b.length 2 (by omega) (by omega)
  have l1 := fixB_len k 1
  have l2 := fixB_len n 4
  have l3 := fixB_len b.length 2
  obtain ⟨body, hbody⟩ : ∃ body, fixB k 1 ++ fixB n 4 ++ fixB b.length 2 ++ b = body := ⟨_, rfl⟩
  have hbl : body.length = 7 + b.length := by rw [← hbody]; simp only [List.length_append]; omega
  have S0 := docsum_any 0#32 body (by omega)
  rw [show ((0#32).toNat : Int) = 0 from rfl] at S0
  have hs := (moreB 0#32 body).isLt
  have F4 := docfix_any (moreB 0#32 body).toNat 4 (by omega) (by omega)
  have l4 := fixB_len (moreB 0#32 body).toNat 4
  have B0 := back_any (fixB (moreB 0#32 body).toNat 4) (by omega)
  rw [four_rev _ hs] at B0
  have e : sealB (k : Int) (n : Int) b = body ++ four ((moreB 0#32 body).toNat : Int) := by
    unfold sealB bodyB sumB
    rw [Int.toNat_natCast, Int.toNat_natCast, hbody]
    rfl
  rw [e]
  have l5 : (four ((moreB 0#32 body).toNat : Int)).length = 4 := rfl
  clear e
  (refine spec_enter Try.func41 Try.ntmps41 rfl rfl fun Fr => ?_; dsimp only [List.cons_append, List.nil_append, ini, Nat.reduceAdd])
  (repeat' (first | (apply run_qg 1; (focus rfl); (focus exact wt); (focus rfl); (focus (exact qg1))) | (apply run_qg 4; (focus rfl); (focus exact wt); (focus rfl); (focus (first | exact qg4 | exact qs4))) | (apply run_qg 6; (focus rfl); (focus exact wt); (focus rfl); (focus (first | exact qs6 | exact qg6 | exact q_max rfl rfl rfl | exact q_sliceData rfl rfl (by omega) | exact q_sliceDataN rfl rfl | exact q_unsafeStringN rfl rfl rfl | exact q_cap_slice rfl rfl))) | (apply run_qg 11; (focus rfl); (focus exact wt); (focus rfl); (focus (exact qs11))) | refine cod_seq ?_ | refine cod_region ?_ | refine run_nil ?_ | refine pst_then ?_ | (apply cod_cond_f; (focus rfl)) | refine cod_skip ?_ | (apply run_offs; (focus rfl); (focus rfl); (focus rfl)) | (apply run_osg 7; (focus rfl); (focus exact wt); (focus rfl); (focus (exact opr_call_ls (by rfl) (F1 ..) (by rfl) lpa)); (rintro _ _ ⟨rfl, rfl⟩)) | (apply run_osg 7; (focus rfl); (focus exact wt); (focus rfl); (focus (exact opr_call_ls (by rfl) (F2 ..) (by rfl) lpa)); (rintro _ _ ⟨rfl, rfl⟩)) | (apply run_osg 7; (focus rfl); (focus exact wt); (focus rfl); (focus (exact opr_call_ls (by rfl) (F3 ..) (by rfl) lpa)); (rintro _ _ ⟨rfl, rfl⟩)) | ((first | (apply run_lss; (rotate_left 2); (focus rfl)) | (apply run_leq; (rotate_left 2); (focus rfl)) | (apply run_gtr; (rotate_left 2); (focus rfl)) | (apply run_geq; (rotate_left 2); (focus rfl)) | (apply run_eql; (rotate_left 2); (focus rfl)) | (apply run_neq; (rotate_left 2); (focus rfl)) | (apply run_seq; (rotate_left 2); (focus rfl)) | (apply run_sneq; (rotate_left 2); (focus rfl))); (focus rfl); (focus rfl); (rotate_right 2); (focus exact wt); (focus rfl); (all_goals (intro h; dsimp only [upd])))))
  all_goals rw [hbody]
  all_goals (repeat' (first | (apply run_qg 1; (focus rfl); (focus exact wt); (focus rfl); (focus (exact qg1))) | (apply run_qg 4; (focus rfl); (focus exact wt); (focus rfl); (focus (first | exact qg4 | exact qs4))) | (apply run_qg 11; (focus rfl); (focus exact wt); (focus rfl); (focus (exact qs11))) | refine run_nil ?_ | refine pst_then ?_ | refine cod_ret ?_ | (apply run_osg 7; (focus rfl); (focus exact wt); (focus rfl); (focus (exact opr_call_ls (by rfl) (S0 ..) (by rfl) lpa)); (rintro _ _ ⟨rfl, rfl⟩)) | (apply run_osg 7; (focus rfl); (focus exact wt); (focus rfl); (focus (exact opr_call_ls (by rfl) (F4 ..) (by rfl) lpa)); (rintro _ _ ⟨rfl, rfl⟩)) | (apply run_osg 7; (focus rfl); (focus exact wt); (focus rfl); (focus (exact opr_call_ls (by rfl) (B0 ..) (by rfl) lpa)); (rintro _ _ ⟨rfl, rfl⟩))))
  all_goals exact pst_fin rfl (by exact resa) _ (⟨rfl, rfl⟩) (by exact hsa)
end Go.Proofs.Ytcbpeampjhegcaa.seal
/-
  linenref.Unseal of a right record: the walk.
-/
namespace Go.Proofs.Ytcbpeampjhegcaa.seal
open Go.RowKit kit sl Go.Proofs.Ytcbpeampjhegcaa.fix Go.Proofs.Ytcbpeampjhegcaa.fixl Go.Proofs.Ytcbpeampjhegcaa.sum
set_option linter.unusedVariables false
attribute [local irreducible] box own sl old bptr eptr Qt Opr Run Cod Pst Drn
set_option maxRecDepth 100000 in
set_option maxHeartbeats 8000000 in
theorem docopen_any (l : List UInt8) (h : openE l = 0) : Ct Try.prog 30 [.string (str l)] [] fun v H' => v = .tuple #[.int .i64 (openK l), .int .i64 (openN l), .string (str (openB l)), .int .i64 0] ∧ H' = [] := by
  obtain ⟨g1, g2, g3, g4, g5⟩ := openE_zero h
  obtain ⟨_, g6⟩ := seal_open l h
  obtain ⟨m, hm⟩ : ∃ m, l.length = m + 4 := ⟨l.length - 4, by omega⟩
  have hm4 : l.length - 4 = m := by omega
  rw [hm4] at g3
  have hlm : (l.take m).length = m := by rw [List.length_take]; omega
  have S0 := docsum_any 0#32 (l.take m) (by omega)
  rw [show ((0#32).toNat : Int) = 0 from rfl] at S0
  have hs := (moreB 0#32 (l.take m)).isLt
  have F4 := docfix_any (moreB 0#32 (l.take m)).toNat 4 (by omega) (by omega)
  have l4 := fixB_len (moreB 0#32 (l.take m)).toNat 4
  have B0 := back_any (fixB (moreB 0#32 (l.take m)).toNat 4) (by omega)
  have g3' : l.drop m = four ((moreB 0#32 (l.take m)).toNat : Int) := g3
  rw [four_rev _ hs] at B0
  have hse : sealE (openK l) (openN l) (openB l).length = 0 := g5
  have hc1 : (l.drop 1).take (5 - 1) = cutB l 1 5 := rfl
  have hc7 : (l.drop 7).take (m - 7) = openB l := by unfold openB cutB; rw [hm4]
  have hbl : (openB l).length ≤ 1000 := by unfold openB cutB; rw [List.length_take, List.length_drop]; omega
  have U0 := docunfix_any (cutB l 1 5) (by unfold cutB; rw [List.length_take]; omega)
  have hn : openN l = ((unfixN (cutB l 1 5) : Nat) : Int) := rfl
  obtain ⟨x, hx⟩ : ∃ x, l[0]? = some x := ⟨_, List.getElem?_eq_getElem (by omega)⟩
  have hk : openK l = (x.toNat : Int) := by unfold openK; rw [List.getD_eq_getElem?_getD, hx]; rfl
  obtain ⟨k1, k2, k3, k4⟩ := sealE_zero hse
  rw [hn] at k2 k3 g6 ⊢
  rw [hk] at k1 g6 ⊢
  have SE := docseal_any x.toNat (unfixN (cutB l 1 5)) (openB l) (by omega) (by omega) hbl
  rw [g6] at SE
  have hlm4 : (m : Int) + 4 - 4 = (m : Int) := by omega
  have hmI : ((l.length : Nat) : Int) - 4 = (m : Int) := by omega
  have e9 : (l == l) = true := by simp
  have e8 : (four ((moreB 0#32 (l.take m)).toNat : Int) == four ((moreB 0#32 (l.take m)).toNat : Int)) = true := by simp
  generalize unfixN (cutB l 1 5) = n at *
  (refine spec_enter Try.func30 Try.ntmps30 rfl rfl fun Fr => ?_; dsimp only [List.cons_append, List.nil_append, ini, Nat.reduceAdd])
  (repeat' (first | (apply run_qg 1; (focus rfl); (focus exact wt); (focus rfl); (focus (exact qg1))) | (apply run_qg 4; (focus rfl); (focus exact wt); (focus rfl); (focus (first | exact qg4 | exact qs4))) | (apply run_qg 6; (focus rfl); (focus exact wt); (focus rfl); (focus (first | exact qs6 | exact qg6 | exact q_max rfl rfl rfl | exact q_sliceData rfl rfl (by omega) | exact q_sliceDataN rfl rfl | exact q_unsafeStringN rfl rfl rfl | exact q_cap_slice rfl rfl))) | refine cod_seq ?_ | refine cod_region ?_ | refine run_nil ?_ | refine pst_then ?_ | (apply cod_cond_f; (focus rfl)) | refine cod_skip ?_))
  rw [hmI]
  (repeat' (first | (apply cod_drawn_k; (focus kernel_rfl); (focus (simp only [List.length_cons, List.length_nil, Nat.reduceAdd]; rfl))) | (apply drnK_take 1; (focus rfl); (focus rfl); (focus exact wt); (focus (decide +kernel)); (focus exact hsq); (focus rfl); (focus (exact qg1))) | (apply drnK_take 12; (focus rfl); (focus rfl); (focus exact wt); (focus (decide +kernel)); (focus exact hsq); (focus rfl); (focus (first | exact qs12 | exact q_cutp rfl rfl rfl rfl (by omega) (by omega) | exact q_slice_cap rfl rfl rfl rfl (by omega)))) | (apply drnK_done; (focus (decide +kernel))) | (apply drnK_skip; (focus rfl)) | (apply drnK_wrap; (focus rfl))))
  (refine drnK_at 3 ?_; (first | refine drnK_ones _ (by rfl) (by rfl) (by kernel_rfl) wt (by rfl) (by exact (opr_call_ls rfl S0 rfl lpa)) ?_ | refine drnK_onen _ (by rfl) (by rfl) (by kernel_rfl) wt (by exact (opr_call_ls rfl S0 rfl lpa)) ?_); rintro _ _ ⟨rfl, rfl⟩; refine ⟨(by first | exact fun h => absurd h (by decide) | exact fun _ => hsq), ?_⟩; (try dsimp only [List.cons_append, List.nil_append]))
  (repeat' (first | (apply drnK_take 11; (focus rfl); (focus rfl); (focus exact wt); (focus (decide +kernel)); (focus exact hsq); (focus rfl); (focus (exact qs11))) | (apply drnK_done; (focus (decide +kernel))) | (apply drnK_skip; (focus rfl))))
  (refine drnK_at 5 ?_; (first | refine drnK_ones _ (by rfl) (by rfl) (by kernel_rfl) wt (by rfl) (by exact (opr_call_ls rfl F4 rfl lpa)) ?_ | refine drnK_onen _ (by rfl) (by rfl) (by kernel_rfl) wt (by exact (opr_call_ls rfl F4 rfl lpa)) ?_); rintro _ _ ⟨rfl, rfl⟩; refine ⟨(by first | exact fun h => absurd h (by decide) | exact fun _ => hsq), ?_⟩; (try dsimp only [List.cons_append, List.nil_append]))
  (repeat' (first | (apply drnK_done; (focus (decide +kernel))) | (apply drnK_skip; (focus rfl))))
  (refine drnK_at 6 ?_; (first | refine drnK_ones _ (by rfl) (by rfl) (by kernel_rfl) wt (by rfl) (by exact (opr_call_ls rfl B0 rfl lpa)) ?_ | refine drnK_onen _ (by rfl) (by rfl) (by kernel_rfl) wt (by exact (opr_call_ls rfl B0 rfl lpa)) ?_); rintro _ _ ⟨rfl, rfl⟩; refine ⟨(by first | exact fun h => absurd h (by decide) | exact fun _ => hsq), ?_⟩; (try dsimp only [List.cons_append, List.nil_append]))
  (repeat' (first | (apply run_qg 1; (focus rfl); (focus exact wt); (focus rfl); (focus (exact qg1))) | (apply run_qg 12; (focus rfl); (focus exact wt); (focus rfl); (focus (first | exact qs12 | exact q_cutp rfl rfl rfl rfl (by omega) (by omega) | exact q_slice_cap rfl rfl rfl rfl (by omega)))) | refine cod_seq ?_ | refine cod_region ?_ | refine run_nil ?_ | refine pst_then ?_ | (apply cod_cond_f; (focus rfl)) | refine cod_skip ?_ | (apply run_osg 7; (focus rfl); (focus exact wt); (focus rfl); (focus (exact opr_call_ls (by rfl) (U0 ..) (by rfl) lpa)); (rintro _ _ ⟨rfl, rfl⟩)) | (apply cod_drawn_k; (focus kernel_rfl); (focus (simp only [List.length_cons, List.length_nil, Nat.reduceAdd]; rfl))) | (apply drnK_take 1; (focus rfl); (focus rfl); (focus exact wt); (focus (decide +kernel)); (focus exact hsq); (focus rfl); (focus (exact qg1))) | (apply drnK_take 3; (focus rfl); (focus rfl); (focus exact wt); (focus (decide +kernel)); (focus exact hsq); (focus rfl); (focus (first | exact qg3 | exact qs3))) | (apply drnK_take 4; (focus rfl); (focus rfl); (focus exact wt); (focus (decide +kernel)); (focus exact hsq); (focus rfl); (focus (first | exact qg4 | exact qs4))) | (apply drnK_take 11; (focus rfl); (focus rfl); (focus exact wt); (focus (decide +kernel)); (focus exact hsq); (focus rfl); (focus (exact qs11))) | (apply drnK_take 12; (focus rfl); (focus rfl); (focus exact wt); (focus (decide +kernel)); (focus exact hsq); (focus rfl); (focus (first | exact qs12 | exact q_cutp rfl rfl rfl rfl (by omega) (by omega) | exact q_slice_cap rfl rfl rfl rfl (by omega)))) | (apply drnK_end; (focus (decide +kernel))) | (apply drnK_done; (focus (decide +kernel))) | (apply drnK_skip; (focus rfl)) | (apply drnK_wrap; (focus rfl))))
  (refine drnK_at 8 ?_; (first | refine drnK_ones _ (by rfl) (by rfl) (by kernel_rfl) wt (by rfl) (by exact (opr_call_ls rfl SE rfl lpa)) ?_ | refine drnK_onen _ (by rfl) (by rfl) (by kernel_rfl) wt (by exact (opr_call_ls rfl SE rfl lpa)) ?_); rintro _ _ ⟨rfl, rfl⟩; refine ⟨(by first | exact fun h => absurd h (by decide) | exact fun _ => hsq), ?_⟩; (try dsimp only [List.cons_append, List.nil_append]))
  (repeat' (first | (apply run_qg 1; (focus rfl); (focus exact wt); (focus rfl); (focus (exact qg1))) | (apply run_qg 4; (focus rfl); (focus exact wt); (focus rfl); (focus (first | exact qg4 | exact qs4))) | refine cod_seq ?_ | refine cod_region ?_ | refine run_nil ?_ | refine pst_then ?_ | (apply cod_cond_f; (focus rfl)) | refine cod_ret ?_ | refine cod_skip ?_ | (apply cod_drawn_k; (focus kernel_rfl); (focus (simp only [List.length_cons, List.length_nil, Nat.reduceAdd]; rfl))) | (apply drnK_take 1; (focus rfl); (focus rfl); (focus exact wt); (focus (decide +kernel)); (focus exact hsq); (focus rfl); (focus (exact qg1))) | (apply drnK_take 3; (focus rfl); (focus rfl); (focus exact wt); (focus (decide +kernel)); (focus exact hsq); (focus rfl); (focus (first | exact qg3 | exact qs3))) | (apply drnK_take 11; (focus rfl); (focus rfl); (focus exact wt); (focus (decide +kernel)); (focus exact hsq); (focus rfl); (focus (exact qs11))) | (apply drnK_take 12; (focus rfl); (focus rfl); (focus exact wt); (focus (decide +kernel)); (focus exact hsq); (focus rfl); (focus (first | exact qs12 | exact q_cutp rfl rfl rfl rfl (by omega) (by omega) | exact q_slice_cap rfl rfl rfl rfl (by omega)))) | (apply drnK_end; (focus (decide +kernel)))))
  exact pst_fin rfl (by exact resa) _ (⟨rfl, rfl⟩) (by exact hsa)
end Go.Proofs.Ytcbpeampjhegcaa.seal
/-
  linenref.Unseal of any text: the walk.
-/
namespace Go.Proofs.Ytcbpeampjhegcaa.seal
open Go.RowKit kit sl Go.Proofs.Ytcbpeampjhegcaa.fix Go.Proofs.Ytcbpeampjhegcaa.fixl Go.Proofs.Ytcbpeampjhegcaa.sum
set_option linter.unusedVariables false
attribute [local irreducible] box own sl old bptr eptr Qt Opr Run Cod Pst Drn
theorem sealE_one {k n : Int} {m : Nat} (h : sealE k n m ≠ 0) (hm : m ≤ 1000) : sealE k n m = 1 ∧ (k ≠ 1 ∧ k ≠ 2 ∨ n < 0 ∨ 2147483647 < n) := by
  unfold sealE at h ⊢
  split
  · rename_i h1
    exact ⟨rfl, h1⟩
  · rename_i h1
    rw [if_neg h1] at h
    split at h
    · omega
    · exact absurd rfl h
set_option maxRecDepth 100000 in
set_option maxHeartbeats 8000000 in
theorem docseal_bad (k n : Int) (b : List UInt8) (h : sealE k n b.length ≠ 0) (hb : b.length ≤ 1000) : Ct Try.prog 41 [.int .i64 k, .int .i64 n, .string (str b)] [] fun v H' => v = .tuple #[.string (str []), .int .i64 1] ∧ H' = [] := by
  obtain ⟨_, h1⟩ := sealE_one h hb
  clear h
  (refine spec_enter Try.func41 Try.ntmps41 rfl rfl fun Fr => ?_; dsimp only [List.cons_append, List.nil_append, ini, Nat.reduceAdd])
  (repeat' (first | (apply run_qg 1; (focus rfl); (focus exact wt); (focus rfl); (focus (exact qg1))) | (apply run_qg 4; (focus rfl); (focus exact wt); (focus rfl); (focus (first | exact qg4 | exact qs4))) | refine cod_seq ?_ | refine cod_region ?_ | refine run_nil ?_ | refine pst_then ?_ | (apply cod_cond_t; (focus rfl)) | refine cod_ret ?_ | refine pst_then_ret ?_ | (apply run_offs; (focus rfl); (focus rfl); (focus rfl)) | ((first | (apply run_lss; (rotate_left 2); (focus rfl)) | (apply run_leq; (rotate_left 2); (focus rfl)) | (apply run_gtr; (rotate_left 2); (focus rfl)) | (apply run_geq; (rotate_left 2); (focus rfl)) | (apply run_eql; (rotate_left 2); (focus rfl)) | (apply run_neq; (rotate_left 2); (focus rfl)) | (apply run_seq; (rotate_left 2); (focus rfl)) | (apply run_sneq; (rotate_left 2); (focus rfl))); (focus rfl); (focus rfl); (rotate_right 2); (focus exact wt); (focus rfl); (all_goals (intro h; dsimp only [upd])))))
  all_goals first | (exfalso; omega) | exact pst_fin rfl (by exact resa) _ (⟨rfl, rfl⟩) (by exact hsa)
theorem openE_four {l : List UInt8} {m : Nat} (h : openE l ≠ 0) (hm : l.length - 4 = m) (h1 : ¬ l.length < 11) (h2 : ¬ 1011 < l.length) (h3 : l.drop m = four (sumB (l.take m))) : openE l = 4 := by
  unfold openE at h ⊢
  rw [if_neg h1, if_neg h2, hm, if_neg (by rw [h3]; simp)] at h ⊢
  split at h
  · rename_i h4
    rw [if_pos h4]
  · exact absurd rfl h
theorem openE_five {l : List UInt8} {m : Nat} (hm : l.length - 4 = m) (h1 : ¬ l.length < 11) (h2 : ¬ 1011 < l.length) (h3 : l.drop m ≠ four (sumB (l.take m))) : openE l = 5 := by
  unfold openE
  rw [if_neg h1, if_neg h2, hm, if_pos h3]
set_option maxRecDepth 100000 in
set_option maxHeartbeats 8000000 in
theorem docopen_no (l : List UInt8) (hl : l.length ≤ 1000000000000000) (h : openE l ≠ 0) : Ct Try.prog 30 [.string (str l)] [] fun v H' => v = .tuple #[.int .i64 0, .int .i64 0, .string (str []), .int .i64 (openE l)] ∧ H' = [] := by
  by_cases hs : l.length < 11
  · have hE : openE l = 3 := by unfold openE; rw [if_pos hs]
    rw [hE]
    clear h hE
    (refine spec_enter Try.func30 Try.ntmps30 rfl rfl fun Fr => ?_; dsimp only [List.cons_append, List.nil_append, ini, Nat.reduceAdd])
    (repeat' (first | (apply run_qg 1; (focus rfl); (focus exact wt); (focus rfl); (focus (exact qg1))) | (apply run_qg 4; (focus rfl); (focus exact wt); (focus rfl); (focus (first | exact qg4 | exact qs4))) | (apply run_qg 6; (focus rfl); (focus exact wt); (focus rfl); (focus (first | exact qs6 | exact qg6 | exact q_max rfl rfl rfl | exact q_sliceData rfl rfl (by omega) | exact q_sliceDataN rfl rfl | exact q_unsafeStringN rfl rfl rfl | exact q_cap_slice rfl rfl))) | refine cod_seq ?_ | refine cod_region ?_ | refine run_nil ?_ | refine pst_then ?_ | (apply cod_cond_t; (focus rfl)) | refine cod_ret ?_ | refine pst_then_ret ?_))
    exact pst_fin rfl (by exact resa) _ (⟨rfl, rfl⟩) (by exact hsa)
  · by_cases hb : 1011 < l.length
    · have hE : openE l = 2 := by unfold openE; rw [if_neg hs, if_pos hb]
      rw [hE]
      clear h hE
      (refine spec_enter Try.func30 Try.ntmps30 rfl rfl fun Fr => ?_; dsimp only [List.cons_append, List.nil_append, ini, Nat.reduceAdd])
      (repeat' (first | (apply run_qg 1; (focus rfl); (focus exact wt); (focus rfl); (focus (exact qg1))) | (apply run_qg 4; (focus rfl); (focus exact wt); (focus rfl); (focus (first | exact qg4 | exact qs4))) | (apply run_qg 6; (focus rfl); (focus exact wt); (focus rfl); (focus (first | exact qs6 | exact qg6 | exact q_max rfl rfl rfl | exact q_sliceData rfl rfl (by omega) | exact q_sliceDataN rfl rfl | exact q_unsafeStringN rfl rfl rfl | exact q_cap_slice rfl rfl))) | refine cod_seq ?_ | refine cod_region ?_ | refine run_nil ?_ | refine pst_then ?_ | (apply cod_cond_t; (focus rfl)) | (apply cod_cond_f; (focus rfl)) | refine cod_ret ?_ | refine cod_skip ?_ | refine pst_then_ret ?_))
      exact pst_fin rfl (by exact resa) _ (⟨rfl, rfl⟩) (by exact hsa)
    · obtain ⟨m, hm⟩ : ∃ m, l.length = m + 4 := ⟨l.length - 4, by omega⟩
      have hm4 : l.length - 4 = m := by omega
      have hlm : (l.take m).length = m := by rw [List.length_take]; omega
      have S0 := docsum_any 0#32 (l.take m) (by omega)
      rw [show ((0#32).toNat : Int) = 0 from rfl] at S0
      have hsl := (moreB 0#32 (l.take m)).isLt
      have F4 := docfix_any (moreB 0#32 (l.take m)).toNat 4 (by omega) (by omega)
      have l4 := fixB_len (moreB 0#32 (l.take m)).toNat 4
      have B0 := back_any (fixB (moreB 0#32 (l.take m)).toNat 4) (by omega)
      rw [four_rev _ hsl] at B0
      have hlm4 : (m : Int) + 4 - 4 = (m : Int) := by omega
      have hmI : ((l.length : Nat) : Int) - 4 = (m : Int) := by omega
      by_cases g3 : l.drop m = four ((moreB 0#32 (l.take m)).toNat : Int)
      · have hE := openE_four h hm4 hs hb g3
        have hc1 : (l.drop 1).take (5 - 1) = cutB l 1 5 := rfl
        have hc7 : (l.drop 7).take (m - 7) = openB l := by unfold openB cutB; rw [hm4]
        have hbl : (openB l).length ≤ 1000 := by unfold openB cutB; rw [List.length_take, List.length_drop]; omega
        have U0 := docunfix_any (cutB l 1 5) (by unfold cutB; rw [List.length_take]; omega)
        have hn : openN l = ((unfixN (cutB l 1 5) : Nat) : Int) := rfl
        obtain ⟨x, hx⟩ : ∃ x, l[0]? = some x := ⟨_, List.getElem?_eq_getElem (by omega)⟩
        have hk : openK l = (x.toNat : Int) := by unfold openK; rw [List.getD_eq_getElem?_getD, hx]; rfl
        have hu4 : unfixN (cutB l 1 5) < 4294967296 := by
          have hc4 : (cutB l 1 5).length ≤ 4 := by unfold cutB; rw [List.length_take]; omega
          refine Nat.lt_of_lt_of_le (unfixN_lt _) ?_
          exact Nat.le_trans (Nat.pow_le_pow_right (by decide) hc4) (by decide)
        have e8 : (four ((moreB 0#32 (l.take m)).toNat : Int) == four ((moreB 0#32 (l.take m)).toNat : Int)) = true := by simp
        rw [hE]
        by_cases hz : sealE (openK l) (openN l) (openB l).length = 0
        · obtain ⟨k1, k2, k3, k4⟩ := sealE_zero hz
          have hne : sealB (openK l) (openN l) (openB l) ≠ l := fun e => h (by have := (open_seal _ _ _ hz).1; rw [e] at this; exact this)
          rw [hn, hk] at hne hz
          rw [hk] at k1
          rw [hn] at k2 k3
          have SE := docseal_any x.toNat (unfixN (cutB l 1 5)) (openB l) (by omega) (by omega) hbl
          have e9 : (sealB (x.toNat : Int) ((unfixN (cutB l 1 5) : Nat) : Int) (openB l) == l) = false := by simpa using hne
          clear hz hne h hE
          generalize unfixN (cutB l 1 5) = n at *
          generalize sealB (x.toNat : Int) (n : Int) (openB l) = T at *
          (refine spec_enter Try.func30 Try.ntmps30 rfl rfl fun Fr => ?_; dsimp only [List.cons_append, List.nil_append, ini, Nat.reduceAdd])
          (repeat' (first | (apply run_qg 1; (focus rfl); (focus exact wt); (focus rfl); (focus (exact qg1))) | (apply run_qg 4; (focus rfl); (focus exact wt); (focus rfl); (focus (first | exact qg4 | exact qs4))) | (apply run_qg 6; (focus rfl); (focus exact wt); (focus rfl); (focus (first | exact qs6 | exact qg6 | exact q_max rfl rfl rfl | exact q_sliceData rfl rfl (by omega) | exact q_sliceDataN rfl rfl | exact q_unsafeStringN rfl rfl rfl | exact q_cap_slice rfl rfl))) | refine cod_seq ?_ | refine cod_region ?_ | refine run_nil ?_ | refine pst_then ?_ | (apply cod_cond_f; (focus rfl)) | refine cod_skip ?_))
          rw [hmI]
          (repeat' (first | (apply cod_drawn_k; (focus kernel_rfl); (focus (simp only [List.length_cons, List.length_nil, Nat.reduceAdd]; rfl))) | (apply drnK_take 1; (focus rfl); (focus rfl); (focus exact wt); (focus (decide +kernel)); (focus exact hsq); (focus rfl); (focus (exact qg1))) | (apply drnK_take 12; (focus rfl); (focus rfl); (focus exact wt); (focus (decide +kernel)); (focus exact hsq); (focus rfl); (focus (first | exact qs12 | exact q_cutp rfl rfl rfl rfl (by omega) (by omega) | exact q_slice_cap rfl rfl rfl rfl (by omega)))) | (apply drnK_done; (focus (decide +kernel))) | (apply drnK_skip; (focus rfl)) | (apply drnK_wrap; (focus rfl))))
          (refine drnK_at 3 ?_; (first | refine drnK_ones _ (by rfl) (by rfl) (by kernel_rfl) wt (by rfl) (by exact (opr_call_ls rfl S0 rfl lpa)) ?_ | refine drnK_onen _ (by rfl) (by rfl) (by kernel_rfl) wt (by exact (opr_call_ls rfl S0 rfl lpa)) ?_); rintro _ _ ⟨rfl, rfl⟩; refine ⟨(by first | exact fun h => absurd h (by decide) | exact fun _ => hsq), ?_⟩; (try dsimp only [List.cons_append, List.nil_append]))
          (repeat' (first | (apply drnK_take 11; (focus rfl); (focus rfl); (focus exact wt); (focus (decide +kernel)); (focus exact hsq); (focus rfl); (focus (exact qs11))) | (apply drnK_done; (focus (decide +kernel))) | (apply drnK_skip; (focus rfl))))
          (refine drnK_at 5 ?_; (first | refine drnK_ones _ (by rfl) (by rfl) (by kernel_rfl) wt (by rfl) (by exact (opr_call_ls rfl F4 rfl lpa)) ?_ | refine drnK_onen _ (by rfl) (by rfl) (by kernel_rfl) wt (by exact (opr_call_ls rfl F4 rfl lpa)) ?_); rintro _ _ ⟨rfl, rfl⟩; refine ⟨(by first | exact fun h => absurd h (by decide) | exact fun _ => hsq), ?_⟩; (try dsimp only [List.cons_append, List.nil_append]))
          (repeat' (first | (apply drnK_done; (focus (decide +kernel))) | (apply drnK_skip; (focus rfl))))
          (refine drnK_at 6 ?_; (first | refine drnK_ones _ (by rfl) (by rfl) (by kernel_rfl) wt (by rfl) (by exact (opr_call_ls rfl B0 rfl lpa)) ?_ | refine drnK_onen _ (by rfl) (by rfl) (by kernel_rfl) wt (by exact (opr_call_ls rfl B0 rfl lpa)) ?_); rintro _ _ ⟨rfl, rfl⟩; refine ⟨(by first | exact fun h => absurd h (by decide) | exact fun _ => hsq), ?_⟩; (try dsimp only [List.cons_append, List.nil_append]))
          (repeat' (first | (apply run_qg 1; (focus rfl); (focus exact wt); (focus rfl); (focus (exact qg1))) | (apply run_qg 12; (focus rfl); (focus exact wt); (focus rfl); (focus (first | exact qs12 | exact q_cutp rfl rfl rfl rfl (by omega) (by omega) | exact q_slice_cap rfl rfl rfl rfl (by omega)))) | refine cod_seq ?_ | refine cod_region ?_ | refine run_nil ?_ | refine pst_then ?_ | (apply cod_cond_f; (focus rfl)) | refine cod_skip ?_ | (apply run_osg 7; (focus rfl); (focus exact wt); (focus rfl); (focus (exact opr_call_ls (by rfl) (U0 ..) (by rfl) lpa)); (rintro _ _ ⟨rfl, rfl⟩)) | (apply cod_drawn_k; (focus kernel_rfl); (focus (simp only [List.length_cons, List.length_nil, Nat.reduceAdd]; rfl))) | (apply drnK_take 1; (focus rfl); (focus rfl); (focus exact wt); (focus (decide +kernel)); (focus exact hsq); (focus rfl); (focus (exact qg1))) | (apply drnK_take 3; (focus rfl); (focus rfl); (focus exact wt); (focus (decide +kernel)); (focus exact hsq); (focus rfl); (focus (first | exact qg3 | exact qs3))) | (apply drnK_take 4; (focus rfl); (focus rfl); (focus exact wt); (focus (decide +kernel)); (focus exact hsq); (focus rfl); (focus (first | exact qg4 | exact qs4))) | (apply drnK_take 11; (focus rfl); (focus rfl); (focus exact wt); (focus (decide +kernel)); (focus exact hsq); (focus rfl); (focus (exact qs11))) | (apply drnK_take 12; (focus rfl); (focus rfl); (focus exact wt); (focus (decide +kernel)); (focus exact hsq); (focus rfl); (focus (first | exact qs12 | exact q_cutp rfl rfl rfl rfl (by omega) (by omega) | exact q_slice_cap rfl rfl rfl rfl (by omega)))) | (apply drnK_end; (focus (decide +kernel))) | (apply drnK_done; (focus (decide +kernel))) | (apply drnK_skip; (focus rfl)) | (apply drnK_wrap; (focus rfl))))
          (refine drnK_at 8 ?_; (first | refine drnK_ones _ (by rfl) (by rfl) (by kernel_rfl) wt (by rfl) (by exact (opr_call_ls rfl SE rfl lpa)) ?_ | refine drnK_onen _ (by rfl) (by rfl) (by kernel_rfl) wt (by exact (opr_call_ls rfl SE rfl lpa)) ?_); rintro _ _ ⟨rfl, rfl⟩; refine ⟨(by first | exact fun h => absurd h (by decide) | exact fun _ => hsq), ?_⟩; (try dsimp only [List.cons_append, List.nil_append]))
          (repeat' (first | (apply run_qg 1; (focus rfl); (focus exact wt); (focus rfl); (focus (exact qg1))) | (apply run_qg 4; (focus rfl); (focus exact wt); (focus rfl); (focus (first | exact qg4 | exact qs4))) | refine cod_seq ?_ | refine cod_region ?_ | refine run_nil ?_ | refine pst_then ?_ | (apply cod_cond_t; (focus rfl)) | refine cod_ret ?_ | refine pst_then_ret ?_ | (apply drnK_take 1; (focus rfl); (focus rfl); (focus exact wt); (focus (decide +kernel)); (focus exact hsq); (focus rfl); (focus (exact qg1))) | (apply drnK_end; (focus (decide +kernel)))))
          exact pst_fin rfl (by exact resa) _ (⟨rfl, rfl⟩) (by exact hsa)
        · have SE := docseal_bad (openK l) (openN l) (openB l) hz hbl
          rw [hn, hk] at SE
          clear hz h hE
          generalize unfixN (cutB l 1 5) = n at *
          (refine spec_enter Try.func30 Try.ntmps30 rfl rfl fun Fr => ?_; dsimp only [List.cons_append, List.nil_append, ini, Nat.reduceAdd])
          (repeat' (first | (apply run_qg 1; (focus rfl); (focus exact wt); (focus rfl); (focus (exact qg1))) | (apply run_qg 4; (focus rfl); (focus exact wt); (focus rfl); (focus (first | exact qg4 | exact qs4))) | (apply run_qg 6; (focus rfl); (focus exact wt); (focus rfl); (focus (first | exact qs6 | exact qg6 | exact q_max rfl rfl rfl | exact q_sliceData rfl rfl (by omega) | exact q_sliceDataN rfl rfl | exact q_unsafeStringN rfl rfl rfl | exact q_cap_slice rfl rfl))) | refine cod_seq ?_ | refine cod_region ?_ | refine run_nil ?_ | refine pst_then ?_ | (apply cod_cond_f; (focus rfl)) | refine cod_skip ?_))
          rw [hmI]
          (repeat' (first | (apply cod_drawn_k; (focus kernel_rfl); (focus (simp only [List.length_cons, List.length_nil, Nat.reduceAdd]; rfl))) | (apply drnK_take 1; (focus rfl); (focus rfl); (focus exact wt); (focus (decide +kernel)); (focus exact hsq); (focus rfl); (focus (exact qg1))) | (apply drnK_take 12; (focus rfl); (focus rfl); (focus exact wt); (focus (decide +kernel)); (focus exact hsq); (focus rfl); (focus (first | exact qs12 | exact q_cutp rfl rfl rfl rfl (by omega) (by omega) | exact q_slice_cap rfl rfl rfl rfl (by omega)))) | (apply drnK_done; (focus (decide +kernel))) | (apply drnK_skip; (focus rfl)) | (apply drnK_wrap; (focus rfl))))
          (refine drnK_at 3 ?_; (first | refine drnK_ones _ (by rfl) (by rfl) (by kernel_rfl) wt (by rfl) (by exact (opr_call_ls rfl S0 rfl lpa)) ?_ | refine drnK_onen _ (by rfl) (by rfl) (by kernel_rfl) wt (by exact (opr_call_ls rfl S0 rfl lpa)) ?_); rintro _ _ ⟨rfl, rfl⟩; refine ⟨(by first | exact fun h => absurd h (by decide) | exact fun _ => hsq), ?_⟩; (try dsimp only [List.cons_append, List.nil_append]))
          (repeat' (first | (apply drnK_take 11; (focus rfl); (focus rfl); (focus exact wt); (focus (decide +kernel)); (focus exact hsq); (focus rfl); (focus (exact qs11))) | (apply drnK_done; (focus (decide +kernel))) | (apply drnK_skip; (focus rfl))))
          (refine drnK_at 5 ?_; (first | refine drnK_ones _ (by rfl) (by rfl) (by kernel_rfl) wt (by rfl) (by exact (opr_call_ls rfl F4 rfl lpa)) ?_ | refine drnK_onen _ (by rfl) (by rfl) (by kernel_rfl) wt (by exact (opr_call_ls rfl F4 rfl lpa)) ?_); rintro _ _ ⟨rfl, rfl⟩; refine ⟨(by first | exact fun h => absurd h (by decide) | exact fun _ => hsq), ?_⟩; (try dsimp only [List.cons_append, List.nil_append]))
          (repeat' (first | (apply drnK_done; (focus (decide +kernel))) | (apply drnK_skip; (focus rfl))))
          (refine drnK_at 6 ?_; (first | refine drnK_ones _ (by rfl) (by rfl) (by kernel_rfl) wt (by rfl) (by exact (opr_call_ls rfl B0 rfl lpa)) ?_ | refine drnK_onen _ (by rfl) (by rfl) (by kernel_rfl) wt (by exact (opr_call_ls rfl B0 rfl lpa)) ?_); rintro _ _ ⟨rfl, rfl⟩; refine ⟨(by first | exact fun h => absurd h (by decide) | exact fun _ => hsq), ?_⟩; (try dsimp only [List.cons_append, List.nil_append]))
          (repeat' (first | (apply run_qg 1; (focus rfl); (focus exact wt); (focus rfl); (focus (exact qg1))) | (apply run_qg 12; (focus rfl); (focus exact wt); (focus rfl); (focus (first | exact qs12 | exact q_cutp rfl rfl rfl rfl (by omega) (by omega) | exact q_slice_cap rfl rfl rfl rfl (by omega)))) | refine cod_seq ?_ | refine cod_region ?_ | refine run_nil ?_ | refine pst_then ?_ | (apply cod_cond_f; (focus rfl)) | refine cod_skip ?_ | (apply run_osg 7; (focus rfl); (focus exact wt); (focus rfl); (focus (exact opr_call_ls (by rfl) (U0 ..) (by rfl) lpa)); (rintro _ _ ⟨rfl, rfl⟩)) | (apply cod_drawn_k; (focus kernel_rfl); (focus (simp only [List.length_cons, List.length_nil, Nat.reduceAdd]; rfl))) | (apply drnK_take 1; (focus rfl); (focus rfl); (focus exact wt); (focus (decide +kernel)); (focus exact hsq); (focus rfl); (focus (exact qg1))) | (apply drnK_take 3; (focus rfl); (focus rfl); (focus exact wt); (focus (decide +kernel)); (focus exact hsq); (focus rfl); (focus (first | exact qg3 | exact qs3))) | (apply drnK_take 4; (focus rfl); (focus rfl); (focus exact wt); (focus (decide +kernel)); (focus exact hsq); (focus rfl); (focus (first | exact qg4 | exact qs4))) | (apply drnK_take 11; (focus rfl); (focus rfl); (focus exact wt); (focus (decide +kernel)); (focus exact hsq); (focus rfl); (focus (exact qs11))) | (apply drnK_take 12; (focus rfl); (focus rfl); (focus exact wt); (focus (decide +kernel)); (focus exact hsq); (focus rfl); (focus (first | exact qs12 | exact q_cutp rfl rfl rfl rfl (by omega) (by omega) | exact q_slice_cap rfl rfl rfl rfl (by omega)))) | (apply drnK_end; (focus (decide +kernel))) | (apply drnK_done; (focus (decide +kernel))) | (apply drnK_skip; (focus rfl)) | (apply drnK_wrap; (focus rfl))))
          (refine drnK_at 8 ?_; (first | refine drnK_ones _ (by rfl) (by rfl) (by kernel_rfl) wt (by rfl) (by exact (opr_call_ls rfl SE rfl lpa)) ?_ | refine drnK_onen _ (by rfl) (by rfl) (by kernel_rfl) wt (by exact (opr_call_ls rfl SE rfl lpa)) ?_); rintro _ _ ⟨rfl, rfl⟩; refine ⟨(by first | exact fun h => absurd h (by decide) | exact fun _ => hsq), ?_⟩; (try dsimp only [List.cons_append, List.nil_append]))
          (repeat' (first | (apply run_qg 1; (focus rfl); (focus exact wt); (focus rfl); (focus (exact qg1))) | (apply run_qg 4; (focus rfl); (focus exact wt); (focus rfl); (focus (first | exact qg4 | exact qs4))) | refine cod_seq ?_ | refine cod_region ?_ | refine run_nil ?_ | refine pst_then ?_ | (apply cod_cond_t; (focus rfl)) | refine cod_ret ?_ | refine pst_then_ret ?_ | (apply run_offs; (focus rfl); (focus rfl); (focus rfl)) | (apply drnK_take 1; (focus rfl); (focus rfl); (focus exact wt); (focus (decide +kernel)); (focus exact hsq); (focus rfl); (focus (exact qg1))) | (apply drnK_end; (focus (decide +kernel)))))
          exact pst_fin rfl (by exact resa) _ (⟨rfl, rfl⟩) (by exact hsa)
      · have hE := openE_five hm4 hs hb g3
        rw [hE]
        have e8 : (four ((moreB 0#32 (l.take m)).toNat : Int) == l.drop m) = false := by simpa using fun e => g3 e.symm
        clear h hE g3
        (refine spec_enter Try.func30 Try.ntmps30 rfl rfl fun Fr => ?_; dsimp only [List.cons_append, List.nil_append, ini, Nat.reduceAdd])
        (repeat' (first | (apply run_qg 1; (focus rfl); (focus exact wt); (focus rfl); (focus (exact qg1))) | (apply run_qg 4; (focus rfl); (focus exact wt); (focus rfl); (focus (first | exact qg4 | exact qs4))) | (apply run_qg 6; (focus rfl); (focus exact wt); (focus rfl); (focus (first | exact qs6 | exact qg6 | exact q_max rfl rfl rfl | exact q_sliceData rfl rfl (by omega) | exact q_sliceDataN rfl rfl | exact q_unsafeStringN rfl rfl rfl | exact q_cap_slice rfl rfl))) | refine cod_seq ?_ | refine cod_region ?_ | refine run_nil ?_ | refine pst_then ?_ | (apply cod_cond_f; (focus rfl)) | refine cod_skip ?_))
        rw [hmI]
        (repeat' (first | (apply cod_drawn_k; (focus kernel_rfl); (focus (simp only [List.length_cons, List.length_nil, Nat.reduceAdd]; rfl))) | (apply drnK_take 1; (focus rfl); (focus rfl); (focus exact wt); (focus (decide +kernel)); (focus exact hsq); (focus rfl); (focus (exact qg1))) | (apply drnK_take 12; (focus rfl); (focus rfl); (focus exact wt); (focus (decide +kernel)); (focus exact hsq); (focus rfl); (focus (first | exact qs12 | exact q_cutp rfl rfl rfl rfl (by omega) (by omega) | exact q_slice_cap rfl rfl rfl rfl (by omega)))) | (apply drnK_done; (focus (decide +kernel))) | (apply drnK_skip; (focus rfl)) | (apply drnK_wrap; (focus rfl))))
        (refine drnK_at 3 ?_; (first | refine drnK_ones _ (by rfl) (by rfl) (by kernel_rfl) wt (by rfl) (by exact (opr_call_ls rfl S0 rfl lpa)) ?_ | refine drnK_onen _ (by rfl) (by rfl) (by kernel_rfl) wt (by exact (opr_call_ls rfl S0 rfl lpa)) ?_); rintro _ _ ⟨rfl, rfl⟩; refine ⟨(by first | exact fun h => absurd h (by decide) | exact fun _ => hsq), ?_⟩; (try dsimp only [List.cons_append, List.nil_append]))
        (repeat' (first | (apply drnK_take 11; (focus rfl); (focus rfl); (focus exact wt); (focus (decide +kernel)); (focus exact hsq); (focus rfl); (focus (exact qs11))) | (apply drnK_done; (focus (decide +kernel))) | (apply drnK_skip; (focus rfl))))
        (refine drnK_at 5 ?_; (first | refine drnK_ones _ (by rfl) (by rfl) (by kernel_rfl) wt (by rfl) (by exact (opr_call_ls rfl F4 rfl lpa)) ?_ | refine drnK_onen _ (by rfl) (by rfl) (by kernel_rfl) wt (by exact (opr_call_ls rfl F4 rfl lpa)) ?_); rintro _ _ ⟨rfl, rfl⟩; refine ⟨(by first | exact fun h => absurd h (by decide) | exact fun _ => hsq), ?_⟩; (try dsimp only [List.cons_append, List.nil_append]))
        (repeat' (first | (apply drnK_done; (focus (decide +kernel))) | (apply drnK_skip; (focus rfl))))
        (refine drnK_at 6 ?_; (first | refine drnK_ones _ (by rfl) (by rfl) (by kernel_rfl) wt (by rfl) (by exact (opr_call_ls rfl B0 rfl lpa)) ?_ | refine drnK_onen _ (by rfl) (by rfl) (by kernel_rfl) wt (by exact (opr_call_ls rfl B0 rfl lpa)) ?_); rintro _ _ ⟨rfl, rfl⟩; refine ⟨(by first | exact fun h => absurd h (by decide) | exact fun _ => hsq), ?_⟩; (try dsimp only [List.cons_append, List.nil_append]))
        (repeat' (first | (apply run_qg 1; (focus rfl); (focus exact wt); (focus rfl); (focus (exact qg1))) | refine cod_seq ?_ | refine cod_region ?_ | refine run_nil ?_ | refine pst_then ?_ | (apply cod_cond_t; (focus rfl)) | refine cod_ret ?_ | refine pst_then_ret ?_ | (apply drnK_take 4; (focus rfl); (focus rfl); (focus exact wt); (focus (decide +kernel)); (focus exact hsq); (focus rfl); (focus (first | exact qg4 | exact qs4))) | (apply drnK_end; (focus (decide +kernel))) | (apply drnK_done; (focus (decide +kernel)))))
        exact pst_fin rfl (by exact resa) _ (⟨rfl, rfl⟩) (by exact hsa)
theorem docopen_eq (l : List UInt8) (hl : l.length ≤ 1000000000000000) : Ct Try.prog 30 [.string (str l)] [] fun v H' => v = openV l ∧ H' = [] := by
  by_cases h : openE l = 0
  · rw [openV_ok h]
    exact docopen_any l h
  · rw [openV_no h]
    exact docopen_no l hl h
end Go.Proofs.Ytcbpeampjhegcaa.seal
/-
  linenref.Get: the walk.
-/
namespace Go.Proofs.Ytcbpeampjhegcaa.sum
open Go.RowKit kit sl Go.Proofs.Ytcbpeampjhegcaa.get Go.Proofs.Ytcbpeampjhegcaa.put
set_option linter.unusedVariables false
def valB : List UInt8 → Nat
  | [] => 0
  | b :: r => b.toNat % 128 + 128 * valB r
theorem valB_snoc : ∀ (l : List UInt8) (b : UInt8), valB (l ++ [b]) = valB l + b.toNat % 128 * 128 ^ l.length
  | [], b => by simp [valB]
  | a :: l, b => by
    rw [List.cons_append, valB, valB, valB_snoc l b, List.length_cons, Nat.pow_succ, Nat.mul_add, Nat.add_assoc, Nat.mul_comm 128 (_ * _), Nat.mul_assoc]
theorem valB_drop (l : List UInt8) : ∀ m, valB (l.drop m) ≤ valB l := by
  induction l with
  | nil => intro m; simp
  | cons a l ih =>
    intro m
    cases m with
    | zero => exact Nat.le_refl _
    | succ m =>
      have := ih m
      rw [List.drop_succ_cons, valB]
      omega
theorem valB_take {l : List UInt8} {k : Nat} {b : UInt8} (hb : l[k]? = some b) : valB (l.take (k + 1)) = valB (l.take k) + b.toNat % 128 * 128 ^ k := by
  have hlt := (List.getElem?_eq_some_iff.1 hb).1
  rw [List.take_add_one, hb]
  show valB (l.take k ++ [b]) = _
  rw [valB_snoc, List.length_take, Nat.min_eq_left (by omega)]
/-- what the first loop knows -/
def GetI (l : List UInt8) (k : Nat) : Prop := getB l = getF (10 - k) k (valB (l.take k)) (l.drop k)
theorem getI_end {l : List UInt8} {k : Nat} (h : GetI l k) (hk : k ≤ 9) (he : l.length ≤ k) : getB l = (0, 0, 3) := by
  unfold GetI at h
  rw [List.drop_of_length_le he, show 10 - k = (9 - k) + 1 by omega] at h
  exact h
theorem getI_bad {l : List UInt8} {k : Nat} {b : UInt8} (h : GetI l k) (hk : k ≤ 9) (hb : l[k]? = some b) (h2 : k = 9 ∧ 1 < b.toNat ∨ 0 < k ∧ b.toNat = 0) : getB l = (0, 0, 4) := by
  obtain ⟨h3, h4⟩ := List.getElem?_eq_some_iff.1 hb
  unfold GetI at h
  rw [List.drop_eq_getElem_cons h3, h4, show 10 - k = (9 - k) + 1 by omega, getF_bad _ _ _ _ _ h2] at h
  exact h
theorem getI_ok {l : List UInt8} {k : Nat} {b : UInt8} (h : GetI l k) (hk : k ≤ 9) (hb : l[k]? = some b) (h2 : ¬ (k = 9 ∧ 1 < b.toNat ∨ 0 < k ∧ b.toNat = 0)) (h1 : b.toNat < 128) : getB l = (valB (l.take (k + 1)), k + 1, 0) := by
  obtain ⟨h3, h4⟩ := List.getElem?_eq_some_iff.1 hb
  unfold GetI at h
  rw [List.drop_eq_getElem_cons h3, h4, show 10 - k = (9 - k) + 1 by omega, getF_last _ _ _ _ _ h2 h1, ← valB_take hb] at h
  exact h
theorem getI_next {l : List UInt8} {k : Nat} {b : UInt8} (h : GetI l k) (hk : k < 9) (hb : l[k]? = some b) (h1 : ¬ b.toNat < 128) : GetI l (k + 1) := by
  obtain ⟨h3, h4⟩ := List.getElem?_eq_some_iff.1 hb
  unfold GetI at h ⊢
  rw [List.drop_eq_getElem_cons h3, h4, show 10 - k = (9 - k) + 1 by omega, getF_more _ _ _ _ _ (by omega) h1, ← valB_take hb] at h
  rw [show 10 - (k + 1) = 9 - k by omega]
  exact h
attribute [local irreducible] box own sl old bptr eptr Qt Opr Run Cod Pst Drn
set_option maxRecDepth 100000 in
set_option maxHeartbeats 8000000 in
theorem docget_val (l : List UInt8) (hl : l.length ≤ 1000000000000000) : Ct Try.prog 42 [.string (str l)] [] fun v H' => v = getV (getB l) ∧ H' = [] := by
  (refine spec_enter Try.func42 Try.ntmps42 rfl rfl fun Fr => ?_; dsimp only [List.cons_append, List.nil_append, ini, Nat.reduceAdd])
  (repeat' (first | (apply run_qg 1; (focus rfl); (focus exact wt); (focus rfl); (focus (exact qg1))) | refine cod_seq ?_ | refine cod_region ?_ | refine run_nil ?_ | refine pst_then ?_ | refine cod_block ?_))
  (refine cod_loop_ro (σ := Nat) (fun k => (k ≤ 9 ∧ k ≤ l.length) ∧ GetI l k) (fun k => [(5, .int .i64 (k : Int))]) (fun k => 10 - k) (0) (by exact ⟨⟨by decide, Nat.zero_le _⟩, rfl⟩) (by exact fsa) (fun k ⟨⟨h9, hkl⟩, hI⟩ => ?_); dsimp only [List.cons_append, List.nil_append])
  rcases Nat.lt_or_ge k l.length with hlt | hge
  · obtain ⟨b, hb⟩ : ∃ b, l[k]? = some b := ⟨_, List.getElem?_eq_getElem hlt⟩
    have hb8 := UInt8.toNat_lt b
    have fin : ¬ (k = 9 ∧ 1 < b.toNat ∨ 0 < k ∧ b.toNat = 0) → b.toNat < 128 → getB l = (valB (l.take (k + 1)), k + 1, 0) := fun h1 h2 => getI_ok hI h9 hb h1 h2
    by_cases hc : b.toNat < 128
    · by_cases hbad : k = 9 ∧ 1 < b.toNat ∨ 0 < k ∧ b.toNat = 0
      · have E := getI_bad hI h9 hb hbad
        clear hI fin
        by_cases hk9 : k = 9
        · subst hk9
          (repeat' (first | (apply run_qg 1; (focus rfl); (focus exact wt); (focus rfl); (focus (exact qg1))) | (apply run_qg 3; (focus rfl); (focus exact wt); (focus rfl); (focus (first | exact qg3 | exact qs3))) | (apply run_qg 4; (focus rfl); (focus exact wt); (focus rfl); (focus (first | exact qg4 | exact qs4))) | (apply run_qg 6; (focus rfl); (focus exact wt); (focus rfl); (focus (first | exact qs6 | exact qg6 | exact q_max rfl rfl rfl | exact q_sliceData rfl rfl (by omega) | exact q_sliceDataN rfl rfl | exact q_unsafeStringN rfl rfl rfl | exact q_cap_slice rfl rfl))) | refine cod_seq ?_ | refine cod_region ?_ | refine run_nil ?_ | refine pst_then ?_ | (apply cod_cond_t; (focus rfl)) | (apply cod_cond_f; (focus rfl)) | refine cod_exit ?_ | refine cod_ret ?_ | refine cod_skip ?_ | refine pst_block_here ?_ | refine pst_then_exit ?_ | refine pst_then_ret ?_ | (apply run_offs; (focus rfl); (focus rfl); (focus rfl)) | (apply run_offus; (focus rfl); (focus rfl); (focus rfl)) | ((first | (apply run_lss; (rotate_left 2); (focus rfl)) | (apply run_leq; (rotate_left 2); (focus rfl)) | (apply run_gtr; (rotate_left 2); (focus rfl)) | (apply run_geq; (rotate_left 2); (focus rfl)) | (apply run_eql; (rotate_left 2); (focus rfl)) | (apply run_neq; (rotate_left 2); (focus rfl)) | (apply run_seq; (rotate_left 2); (focus rfl)) | (apply run_sneq; (rotate_left 2); (focus rfl))); (focus rfl); (focus rfl); (rotate_right 2); (focus exact wt); (focus rfl); (all_goals (intro h; dsimp only [upd])))))
          all_goals first | (exfalso; omega) | exact pst_fin rfl (by exact resa) _ (⟨by rw [E]; rfl, rfl⟩) (by exact hsa)
        · (repeat' (first | (apply run_qg 1; (focus rfl); (focus exact wt); (focus rfl); (focus (exact qg1))) | (apply run_qg 3; (focus rfl); (focus exact wt); (focus rfl); (focus (first | exact qg3 | exact qs3))) | (apply run_qg 4; (focus rfl); (focus exact wt); (focus rfl); (focus (first | exact qg4 | exact qs4))) | (apply run_qg 6; (focus rfl); (focus exact wt); (focus rfl); (focus (first | exact qs6 | exact qg6 | exact q_max rfl rfl rfl | exact q_sliceData rfl rfl (by omega) | exact q_sliceDataN rfl rfl | exact q_unsafeStringN rfl rfl rfl | exact q_cap_slice rfl rfl))) | refine cod_seq ?_ | refine cod_region ?_ | refine run_nil ?_ | refine pst_then ?_ | (apply cod_cond_t; (focus rfl)) | (apply cod_cond_f; (focus rfl)) | refine cod_exit ?_ | refine cod_ret ?_ | refine cod_skip ?_ | refine pst_block_here ?_ | refine pst_then_exit ?_ | refine pst_then_ret ?_ | (apply run_offs; (focus rfl); (focus rfl); (focus rfl))))
          all_goals first | (exfalso; omega) | exact pst_fin rfl (by exact resa) _ (⟨by rw [E]; rfl, rfl⟩) (by exact hsa)
      · have E := fin hbad hc
        clear hI fin
        have hV : valB (l.take (k + 1)) < 18446744073709551616 := by
          rcases getB_facts l with ⟨k', m, h1, _, _, h4, _⟩ | h1 | h1
          · rw [h1] at E
            cases E
            exact h4
          · rw [h1] at E; simp at E
          · rw [h1] at E; simp at E
        have hlen : (l.take (k + 1)).length = k + 1 := by rw [List.length_take]; omega
        have hat : ∀ (m : Nat) (c : UInt8), m < k + 1 → l[m]? = some c → valB ((l.take (k + 1)).drop m) = c.toNat % 128 + 128 * valB ((l.take (k + 1)).drop (m + 1)) := fun m c hm hc => by
          have h1 : (l.take (k + 1))[m]? = some c := by rw [List.getElem?_take, if_pos hm]; exact hc
          obtain ⟨h3, h4⟩ := List.getElem?_eq_some_iff.1 h1
          rw [List.drop_eq_getElem_cons h3, h4]
          rfl
        have hmon := valB_drop (l.take (k + 1))
        have h0 : valB ((l.take (k + 1)).drop (k + 1)) = 0 := by rw [List.drop_of_length_le (by omega)]; rfl
        by_cases hk9 : k = 9
        · subst hk9
          (repeat' (first | (apply run_qg 1; (focus rfl); (focus exact wt); (focus rfl); (focus (exact qg1))) | (apply run_qg 3; (focus rfl); (focus exact wt); (focus rfl); (focus (first | exact qg3 | exact qs3))) | (apply run_qg 4; (focus rfl); (focus exact wt); (focus rfl); (focus (first | exact qg4 | exact qs4))) | (apply run_qg 6; (focus rfl); (focus exact wt); (focus rfl); (focus (first | exact qs6 | exact qg6 | exact q_max rfl rfl rfl | exact q_sliceData rfl rfl (by omega) | exact q_sliceDataN rfl rfl | exact q_unsafeStringN rfl rfl rfl | exact q_cap_slice rfl rfl))) | refine cod_seq ?_ | refine cod_region ?_ | refine run_nil ?_ | refine pst_then ?_ | (apply cod_cond_f; (focus rfl)) | refine cod_block ?_ | refine cod_exit ?_ | refine cod_skip ?_ | refine pst_block_here ?_ | refine pst_then_exit ?_ | (apply run_offs; (focus rfl); (focus rfl); (focus rfl))))
          (refine cod_loop_ro (σ := Int × Nat) (fun x => (-1 ≤ x.1 ∧ x.1 ≤ 9) ∧ x.2 = valB ((l.take (9 + 1)).drop (x.1 + 1).toNat)) (fun x => [(7, .int .i64 x.1), (6, .int .u64 (x.2 : Int))]) (fun x => (x.1 + 1).toNat) ((9, 0)) (by exact ⟨⟨by dsimp only; omega, by dsimp only; omega⟩, h0.symm⟩) (by exact fsa) (fun ⟨i, V⟩ ⟨⟨hi1, hi2⟩, hV2⟩ => ?_); dsimp only [List.cons_append, List.nil_append])
          dsimp only at hi1 hi2 hV2 ⊢
          rcases Int.lt_or_le i 0 with hi0 | hi0
          · have hi9 : i = -1 := by omega
            subst hi9
            have hVe : V = valB (l.take (9 + 1)) := hV2
            subst hVe
            (repeat' (first | (apply run_qg 1; (focus rfl); (focus exact wt); (focus rfl); (focus (exact qg1))) | (apply run_qg 4; (focus rfl); (focus exact wt); (focus rfl); (focus (first | exact qg4 | exact qs4))) | refine cod_seq ?_ | refine cod_region ?_ | refine run_nil ?_ | refine pst_then ?_ | (apply cod_cond_f; (focus rfl)) | refine cod_exit ?_ | refine cod_ret ?_ | refine pst_block_here ?_ | refine pst_then_exit ?_))
            exact pst_fin rfl (by exact resa) _ (⟨by rw [E]; rfl, rfl⟩) (by exact hsa)
          · obtain ⟨m, rfl⟩ := Int.eq_ofNat_of_zero_le hi0
            obtain ⟨c, hc⟩ : ∃ c, l[m]? = some c := ⟨_, List.getElem?_eq_getElem (by omega)⟩
            have hc8 := UInt8.toNat_lt c
            have hstep := hat m c (by omega) hc
            have hm1 : ((m : Int) + 1).toNat = m + 1 := by omega
            rw [hm1] at hV2
            rw [← hV2] at hstep
            have hmo := hmon m
            have hbd : c.toNat % 128 + 128 * V < 18446744073709551616 := by omega
            have e5 : (V : Int) * 128 + (c.toNat : Int) % 128 = ((c.toNat % 128 + 128 * V : Nat) : Int) := by omega
            clear hat hmon h0 hV E hV2 hmo
            (repeat' (first | (apply run_qg 1; (focus rfl); (focus exact wt); (focus rfl); (focus (exact qg1))) | (apply run_qg 3; (focus rfl); (focus exact wt); (focus rfl); (focus (first | exact qg3 | exact qs3))) | (apply run_qg 4; (focus rfl); (focus exact wt); (focus rfl); (focus (first | exact qg4 | exact qs4))) | (apply run_qg 11; (focus rfl); (focus exact wt); (focus rfl); (focus (exact qs11))) | refine cod_seq ?_ | refine cod_region ?_ | refine run_nil ?_ | refine pst_then ?_ | (apply cod_cond_t; (focus rfl)) | refine cod_block ?_ | refine cod_skip ?_))
            refine run_qs wt rfl (q_rem64 rfl rfl rfl (by omega)) ?_
            (repeat' (first | (apply run_qg 1; (focus rfl); (focus exact wt); (focus rfl); (focus (exact qg1))) | (apply run_qg 4; (focus rfl); (focus exact wt); (focus rfl); (focus (first | exact qg4 | exact qs4))) | refine cod_region ?_ | refine run_nil ?_ | refine pst_then ?_ | refine pst_block ?_))
            rw [e5]
            refine pst_again (((m : Int) - 1, c.toNat % 128 + 128 * V)) ?_ (FSub.of (by (try dsimp only); exact fsa)) (by (try dsimp only); exact hsa) ?_
            · refine ⟨⟨by dsimp only; omega, by dsimp only; omega⟩, ?_⟩
              dsimp only
              rw [show ((m : Int) - 1 + 1).toNat = m by omega]
              exact hstep.symm
            · dsimp only; omega
        · by_cases hk0 : k = 0
          · subst hk0
            (repeat' (first | (apply run_qg 1; (focus rfl); (focus exact wt); (focus rfl); (focus (exact qg1))) | (apply run_qg 3; (focus rfl); (focus exact wt); (focus rfl); (focus (first | exact qg3 | exact qs3))) | (apply run_qg 4; (focus rfl); (focus exact wt); (focus rfl); (focus (first | exact qg4 | exact qs4))) | (apply run_qg 6; (focus rfl); (focus exact wt); (focus rfl); (focus (first | exact qs6 | exact qg6 | exact q_max rfl rfl rfl | exact q_sliceData rfl rfl (by omega) | exact q_sliceDataN rfl rfl | exact q_unsafeStringN rfl rfl rfl | exact q_cap_slice rfl rfl))) | refine cod_seq ?_ | refine cod_region ?_ | refine run_nil ?_ | refine pst_then ?_ | (apply cod_cond_f; (focus rfl)) | refine cod_block ?_ | refine cod_exit ?_ | refine cod_skip ?_ | refine pst_block_here ?_ | refine pst_then_exit ?_ | (apply run_offs; (focus rfl); (focus rfl); (focus rfl))))
            (refine cod_loop_ro (σ := Int × Nat) (fun x => (-1 ≤ x.1 ∧ x.1 ≤ 0) ∧ x.2 = valB ((l.take (0 + 1)).drop (x.1 + 1).toNat)) (fun x => [(7, .int .i64 x.1), (6, .int .u64 (x.2 : Int))]) (fun x => (x.1 + 1).toNat) ((0, 0)) (by exact ⟨⟨by dsimp only; omega, by dsimp only; omega⟩, h0.symm⟩) (by exact fsa) (fun ⟨i, V⟩ ⟨⟨hi1, hi2⟩, hV2⟩ => ?_); dsimp only [List.cons_append, List.nil_append])
            dsimp only at hi1 hi2 hV2 ⊢
            rcases Int.lt_or_le i 0 with hi0 | hi0
            · have hi9 : i = -1 := by omega
              subst hi9
              have hVe : V = valB (l.take (0 + 1)) := hV2
              subst hVe
              (repeat' (first | (apply run_qg 1; (focus rfl); (focus exact wt); (focus rfl); (focus (exact qg1))) | (apply run_qg 4; (focus rfl); (focus exact wt); (focus rfl); (focus (first | exact qg4 | exact qs4))) | refine cod_seq ?_ | refine cod_region ?_ | refine run_nil ?_ | refine pst_then ?_ | (apply cod_cond_f; (focus rfl)) | refine cod_exit ?_ | refine cod_ret ?_ | refine pst_block_here ?_ | refine pst_then_exit ?_))
              exact pst_fin rfl (by exact resa) _ (⟨by rw [E]; rfl, rfl⟩) (by exact hsa)
            · obtain ⟨m, rfl⟩ := Int.eq_ofNat_of_zero_le hi0
              obtain ⟨c, hc⟩ : ∃ c, l[m]? = some c := ⟨_, List.getElem?_eq_getElem (by omega)⟩
              have hc8 := UInt8.toNat_lt c
              have hstep := hat m c (by omega) hc
              have hm1 : ((m : Int) + 1).toNat = m + 1 := by omega
              rw [hm1] at hV2
              rw [← hV2] at hstep
              have hmo := hmon m
              have hbd : c.toNat % 128 + 128 * V < 18446744073709551616 := by omega
              have e5 : (V : Int) * 128 + (c.toNat : Int) % 128 = ((c.toNat % 128 + 128 * V : Nat) : Int) := by omega
              clear hat hmon h0 hV E hV2 hmo
              (repeat' (first | (apply run_qg 1; (focus rfl); (focus exact wt); (focus rfl); (focus (exact qg1))) | (apply run_qg 3; (focus rfl); (focus exact wt); (focus rfl); (focus (first | exact qg3 | exact qs3))) | (apply run_qg 4; (focus rfl); (focus exact wt); (focus rfl); (focus (first | exact qg4 | exact qs4))) | (apply run_qg 11; (focus rfl); (focus exact wt); (focus rfl); (focus (exact qs11))) | refine cod_seq ?_ | refine cod_region ?_ | refine run_nil ?_ | refine pst_then ?_ | (apply cod_cond_t; (focus rfl)) | refine cod_block ?_ | refine cod_skip ?_))
              refine run_qs wt rfl (q_rem64 rfl rfl rfl (by omega)) ?_
              (repeat' (first | (apply run_qg 1; (focus rfl); (focus exact wt); (focus rfl); (focus (exact qg1))) | (apply run_qg 4; (focus rfl); (focus exact wt); (focus rfl); (focus (first | exact qg4 | exact qs4))) | refine cod_region ?_ | refine run_nil ?_ | refine pst_then ?_ | refine pst_block ?_))
              rw [e5]
              refine pst_again (((m : Int) - 1, c.toNat % 128 + 128 * V)) ?_ (FSub.of (by (try dsimp only); exact fsa)) (by (try dsimp only); exact hsa) ?_
              · refine ⟨⟨by dsimp only; omega, by dsimp only; omega⟩, ?_⟩
                dsimp only
                rw [show ((m : Int) - 1 + 1).toNat = m by omega]
                exact hstep.symm
              · dsimp only; omega
          · (repeat' (first | (apply run_qg 1; (focus rfl); (focus exact wt); (focus rfl); (focus (exact qg1))) | (apply run_qg 3; (focus rfl); (focus exact wt); (focus rfl); (focus (first | exact qg3 | exact qs3))) | (apply run_qg 4; (focus rfl); (focus exact wt); (focus rfl); (focus (first | exact qg4 | exact qs4))) | (apply run_qg 6; (focus rfl); (focus exact wt); (focus rfl); (focus (first | exact qs6 | exact qg6 | exact q_max rfl rfl rfl | exact q_sliceData rfl rfl (by omega) | exact q_sliceDataN rfl rfl | exact q_unsafeStringN rfl rfl rfl | exact q_cap_slice rfl rfl))) | refine cod_seq ?_ | refine cod_region ?_ | refine run_nil ?_ | refine pst_then ?_ | (apply cod_cond_f; (focus rfl)) | refine cod_block ?_ | refine cod_exit ?_ | refine cod_skip ?_ | refine pst_block_here ?_ | refine pst_then_exit ?_ | (apply run_offs; (focus rfl); (focus rfl); (focus rfl))))
            (refine cod_loop_ro (σ := Int × Nat) (fun x => (-1 ≤ x.1 ∧ x.1 ≤ k) ∧ x.2 = valB ((l.take (k + 1)).drop (x.1 + 1).toNat)) (fun x => [(7, .int .i64 x.1), (6, .int .u64 (x.2 : Int))]) (fun x => (x.1 + 1).toNat) (((k : Int), 0)) (by exact ⟨⟨by dsimp only; omega, by dsimp only; omega⟩, h0.symm⟩) (by exact fsa) (fun ⟨i, V⟩ ⟨⟨hi1, hi2⟩, hV2⟩ => ?_); dsimp only [List.cons_append, List.nil_append])
            dsimp only at hi1 hi2 hV2 ⊢
            rcases Int.lt_or_le i 0 with hi0 | hi0
            · have hi9 : i = -1 := by omega
              subst hi9
              have hVe : V = valB (l.take (k + 1)) := hV2
              subst hVe
              (repeat' (first | (apply run_qg 1; (focus rfl); (focus exact wt); (focus rfl); (focus (exact qg1))) | (apply run_qg 4; (focus rfl); (focus exact wt); (focus rfl); (focus (first | exact qg4 | exact qs4))) | refine cod_seq ?_ | refine cod_region ?_ | refine run_nil ?_ | refine pst_then ?_ | (apply cod_cond_f; (focus rfl)) | refine cod_exit ?_ | refine cod_ret ?_ | refine pst_block_here ?_ | refine pst_then_exit ?_))
              exact pst_fin rfl (by exact resa) _ (⟨by rw [E]; rfl, rfl⟩) (by exact hsa)
            · obtain ⟨m, rfl⟩ := Int.eq_ofNat_of_zero_le hi0
              obtain ⟨c, hc⟩ : ∃ c, l[m]? = some c := ⟨_, List.getElem?_eq_getElem (by omega)⟩
              have hc8 := UInt8.toNat_lt c
              have hstep := hat m c (by omega) hc
              have hm1 : ((m : Int) + 1).toNat = m + 1 := by omega
              rw [hm1] at hV2
              rw [← hV2] at hstep
              have hmo := hmon m
              have hbd : c.toNat % 128 + 128 * V < 18446744073709551616 := by omega
              have e5 : (V : Int) * 128 + (c.toNat : Int) % 128 = ((c.toNat % 128 + 128 * V : Nat) : Int) := by omega
              clear hat hmon h0 hV E hV2 hmo
              (repeat' (first | (apply run_qg 1; (focus rfl); (focus exact wt); (focus rfl); (focus (exact qg1))) | (apply run_qg 3; (focus rfl); (focus exact wt); (focus rfl); (focus (first | exact qg3 | exact qs3))) | (apply run_qg 4; (focus rfl); (focus exact wt); (focus rfl); (focus (first | exact qg4 | exact qs4))) | (apply run_qg 11; (focus rfl); (focus exact wt); (focus rfl); (focus (exact qs11))) | refine cod_seq ?_ | refine cod_region ?_ | refine run_nil ?_ | refine pst_then ?_ | (apply cod_cond_t; (focus rfl)) | refine cod_block ?_ | refine cod_skip ?_))
              refine run_qs wt rfl (q_rem64 rfl rfl rfl (by omega)) ?_
              (repeat' (first | (apply run_qg 1; (focus rfl); (focus exact wt); (focus rfl); (focus (exact qg1))) | (apply run_qg 4; (focus rfl); (focus exact wt); (focus rfl); (focus (first | exact qg4 | exact qs4))) | refine cod_region ?_ | refine run_nil ?_ | refine pst_then ?_ | refine pst_block ?_))
              rw [e5]
              refine pst_again (((m : Int) - 1, c.toNat % 128 + 128 * V)) ?_ (FSub.of (by (try dsimp only); exact fsa)) (by (try dsimp only); exact hsa) ?_
              · refine ⟨⟨by dsimp only; omega, by dsimp only; omega⟩, ?_⟩
                dsimp only
                rw [show ((m : Int) - 1 + 1).toNat = m by omega]
                exact hstep.symm
              · dsimp only; omega
    · by_cases hk9 : k = 9
      · have E := getI_bad hI h9 hb (.inl ⟨hk9, by omega⟩)
        clear hI fin
        subst hk9
        (repeat' (first | (apply run_qg 1; (focus rfl); (focus exact wt); (focus rfl); (focus (exact qg1))) | (apply run_qg 3; (focus rfl); (focus exact wt); (focus rfl); (focus (first | exact qg3 | exact qs3))) | (apply run_qg 4; (focus rfl); (focus exact wt); (focus rfl); (focus (first | exact qg4 | exact qs4))) | (apply run_qg 6; (focus rfl); (focus exact wt); (focus rfl); (focus (first | exact qs6 | exact qg6 | exact q_max rfl rfl rfl | exact q_sliceData rfl rfl (by omega) | exact q_sliceDataN rfl rfl | exact q_unsafeStringN rfl rfl rfl | exact q_cap_slice rfl rfl))) | refine cod_seq ?_ | refine cod_region ?_ | refine run_nil ?_ | refine pst_then ?_ | (apply cod_cond_t; (focus rfl)) | (apply cod_cond_f; (focus rfl)) | refine cod_exit ?_ | refine cod_ret ?_ | refine cod_skip ?_ | refine pst_block_here ?_ | refine pst_then_exit ?_ | refine pst_then_ret ?_ | (apply run_offs; (focus rfl); (focus rfl); (focus rfl)) | (apply run_offus; (focus rfl); (focus rfl); (focus rfl))))
        all_goals first | (exfalso; omega) | exact pst_fin rfl (by exact resa) _ (⟨by rw [E]; rfl, rfl⟩) (by exact hsa)
      · have hN := getI_next hI (by omega) hb hc
        clear hI fin
        (repeat' (first | (apply run_qg 1; (focus rfl); (focus exact wt); (focus rfl); (focus (exact qg1))) | (apply run_qg 3; (focus rfl); (focus exact wt); (focus rfl); (focus (first | exact qg3 | exact qs3))) | (apply run_qg 4; (focus rfl); (focus exact wt); (focus rfl); (focus (first | exact qg4 | exact qs4))) | (apply run_qg 6; (focus rfl); (focus exact wt); (focus rfl); (focus (first | exact qs6 | exact qg6 | exact q_max rfl rfl rfl | exact q_sliceData rfl rfl (by omega) | exact q_sliceDataN rfl rfl | exact q_unsafeStringN rfl rfl rfl | exact q_cap_slice rfl rfl))) | refine cod_seq ?_ | refine cod_region ?_ | refine run_nil ?_ | refine pst_then ?_ | (apply cod_cond_t; (focus rfl)) | refine cod_block ?_ | refine cod_skip ?_ | refine pst_block ?_))
        refine pst_again (k + 1) ?_ (FSub.of (by (try dsimp only); exact fsa)) (by (try dsimp only); exact hsa) ?_
        · exact ⟨⟨by omega, by omega⟩, hN⟩
        · omega
  · have E := getI_end hI h9 hge
    clear hI
    (repeat' (first | (apply run_qg 1; (focus rfl); (focus exact wt); (focus rfl); (focus (exact qg1))) | (apply run_qg 4; (focus rfl); (focus exact wt); (focus rfl); (focus (first | exact qg4 | exact qs4))) | (apply run_qg 6; (focus rfl); (focus exact wt); (focus rfl); (focus (first | exact qs6 | exact qg6 | exact q_max rfl rfl rfl | exact q_sliceData rfl rfl (by omega) | exact q_sliceDataN rfl rfl | exact q_unsafeStringN rfl rfl rfl | exact q_cap_slice rfl rfl))) | refine cod_seq ?_ | refine cod_region ?_ | refine run_nil ?_ | refine pst_then ?_ | (apply cod_cond_t; (focus rfl)) | (apply cod_cond_f; (focus rfl)) | refine cod_exit ?_ | refine cod_ret ?_ | refine pst_block_here ?_ | refine pst_then_exit ?_ | refine pst_then_ret ?_ | (apply run_offs; (focus rfl); (focus rfl); (focus rfl))))
    all_goals first | (exfalso; omega) | exact pst_fin rfl (by exact resa) _ (⟨by rw [E]; rfl, rfl⟩) (by exact hsa)
end Go.Proofs.Ytcbpeampjhegcaa.sum
