/-
  Several texts in one: Flip, Kraft, Sink, Pack, From, CodeWrite, CodeLaw, CodeLaw2, CodeLaw3, CodeLaw4.
-/
import Derived.Test.YtppnaofebkpbkaaRows
import Derived.Test.YtppnaofebkpbkaaKit
import Derived.Test.YtppnaofebkpbkaaCanon
import Derived.Test.YtppnaofebkpbkaaKit3
import Derived.Test.YtppnaofebkpbkaaRow
import Derived.Test.YtppnaofebkpbkaaMgA
import Derived.Test.YtppnaofebkpbkaaMore
import Derived.Test.YtppnaofebkpbkaaCodeRead
/-
  bits.Flip: the walk (what it computes: 'flipN'), and the plain law: flipped twice it is the lowest bits.
-/
namespace Go.Proofs.Ytppnaofebkpbkaa.flip
open Go.RowKit

/-- the lowest k bits of n, the first as the last -/
def flipN (n : Nat) : Nat → Nat
  | 0 => 0
  | k + 1 => flipN n k * 2 + n / 2 ^ k % 2

theorem flipN_lt (n k : Nat) : flipN n k < 2 ^ k := by
  induction k with
  | zero => simp [flipN]
  | succ k ih => rw [flipN, Nat.pow_succ]; omega

theorem flipN_bit (n k i : Nat) : (flipN n k).testBit i = (decide (i < k) && n.testBit (k - 1 - i)) := by
  induction k generalizing i with
  | zero => simp [flipN]
  | succ k ih =>
    cases i with
    | zero =>
      rw [flipN, Nat.testBit_zero, Nat.testBit_eq_decide_div_mod_eq]
      simp
    | succ i =>
      rw [flipN, Nat.testBit_succ]
      have e : (flipN n k * 2 + n / 2 ^ k % 2) / 2 = flipN n k := by omega
      rw [e, ih]
      by_cases h : i < k
      · have e2 : k - 1 - i = k + 1 - 1 - (i + 1) := by omega
        simp [h, e2]
      · simp [h]

theorem flipN_twice (n k : Nat) : flipN (flipN n k) k = n % 2 ^ k := by
  apply Nat.eq_of_testBit_eq
  intro i
  rw [flipN_bit, flipN_bit, Nat.testBit_mod_two_pow]
  by_cases h : i < k
  · have e : k - 1 - (k - 1 - i) = i := by omega
    have e2 : k - 1 - i < k := by omega
    simp [h, e, e2]
  · simp [h]

attribute [local go_sem] kit.ite_min kit.ite_max

theorem step_or (a b : Nat) (ha : a < 18446744073709551616) (hb : b < 9223372036854775808) :
    bits BinOp.or IntKind.u64 (IntKind.u64.wrap ((b : Int) * 2)) (bits BinOp.and IntKind.u64 (a : Int) 1) = ((b * 2 + a % 2 : Nat) : Int) := by
  have e1 : bits BinOp.and IntKind.u64 (a : Int) 1 = ((a % 2 : Nat) : Int) := by
    rw [show (1 : Int) = ((1 : Nat) : Int) from rfl, u64_and_nat a 1 ha (by decide), nat_mask1]
  have e2 : IntKind.u64.wrap ((b : Int) * 2) = ((b * 2 : Nat) : Int) := by
    rw [IntKind.wrap_u64]; omega
  rw [e1, e2, u64_or_nat _ _ (by omega) (by omega)]
  congr 1
  exact nat_join 1 (b * 2) (a % 2) (by omega) (by omega)

/-- Flip answers the lowest bits turned round. -/
theorem flip_any (n : Nat) (w : Int) (h1 : n < 18446744073709551616) (W : World) :
    Calls Try.prog 62 #[.int .u64 n, .int .i64 w] W fun e w' => e = .returned (.int .u64 (flipN n (max 0 (min 64 w)).toNat)) ∧ W = w' := by
  obtain ⟨m, hm⟩ : ∃ m : Nat, max 0 (min 64 w) = (m : Int) := ⟨(max 0 (min 64 w)).toNat, by omega⟩
  have hm64 : m ≤ 64 := by omega
  have HM := Lib.hid hm
  clear hm
  go_enter Try.func62, Try.ntmps62
  go_wp2_with (fail)
  rw [HM.out]
  go_loop [0, 5, 10] (fun x y i => ∃ k : Nat, k ≤ m ∧ i = .int .i64 k ∧ x = .int .u64 ((n / 2 ^ k : Nat) : Int) ∧ y = .int .u64 (flipN n k)) (fun _ _ i => (64 - intOf i).toNat)
  case atStart => exact ⟨0, by omega, rfl, by simp, rfl⟩
  case round =>
    obtain ⟨k, hk, rfl, rfl, rfl⟩ := hrel
    by_cases hlt : k < m
    · go_wp2
      go_round
      case rel =>
        refine ⟨k + 1, by omega, by go_num, ?_, ?_⟩
        · refine kit.val_int ?_
          rw [Nat.pow_succ, ← Nat.div_div_eq_div_mul]; rfl
        · have hb : flipN n k < 2 ^ 63 := Nat.lt_of_lt_of_le (flipN_lt n k) (Nat.pow_le_pow_right (by omega) (by omega))
          have ha : n / 2 ^ k < 18446744073709551616 := Nat.lt_of_le_of_lt (Nat.div_le_self _ _) h1
          exact kit.val_int (step_or _ _ ha hb)
      case measure => simp [intOf]; omega
    · obtain rfl : k = m := by omega
      go_wp2
      go_ret
      exact ⟨by rw [HM.out]; rfl, rfl⟩
end Go.Proofs.Ytppnaofebkpbkaa.flip
/-
  The plain law of the codes: where each begins, and where all end.
-/
namespace Go.Proofs.Ytppnaofebkpbkaa.lens
open Go.RowKit kit
set_option linter.unusedVariables false

/-- what the shorter ones take up -/
def sumA (l : List Int) : Nat → Nat
  | 0 => 0
  | w + 1 => sumA l w + (if w = 0 then 0 else cnt l w * 2 ^ (15 - w))
theorem sumA_next (l : List Int) (w : Nat) (h : 1 ≤ w) : sumA l (w + 1) = sumA l w + cnt l w * 2 ^ (15 - w) := by
  rw [sumA, if_neg (by omega)]
theorem sumA_one (l : List Int) : sumA l 1 = 0 := by simp [sumA]
theorem nxt_sum (l : List Int) : ∀ w, 1 ≤ w → w ≤ 15 → nxt l w * 2 ^ (15 - w) = sumA l w := by
  intro w
  induction w with
  | zero => intro h; omega
  | succ w ih =>
    intro h1 h15
    cases w with
    | zero => simp [nxt, sumA]
    | succ w =>
      rw [nxt_succ _ _ (by omega), sumA_next _ _ (by omega), ← ih (by omega) (by omega), Nat.mul_assoc, ← Nat.pow_succ', show (15 - (w + 1 + 1)).succ = 15 - (w + 1) from by omega, Nat.add_mul]
theorem sumA_cons (x : Int) (l : List Int) : ∀ w, sumA (x :: l) w = sumA l w + (if 1 ≤ x ∧ x < (w : Int) then 2 ^ (15 - x.toNat) else 0) := by
  intro w
  induction w with
  | zero =>
    rw [if_neg (by omega)]; rfl
  | succ w ih =>
    cases w with
    | zero => rw [if_neg (by omega)]; simp [sumA]
    | succ w =>
      rw [sumA_next _ (w + 1) (by omega), sumA_next _ (w + 1) (by omega), ih, cnt, Nat.add_mul]
      by_cases h : x = ((w + 1 : Nat) : Int)
      · subst h
        rw [if_pos rfl, if_neg (by omega), if_pos (by omega)]
        simp
        omega
      · rw [if_neg h]
        by_cases h2 : 1 ≤ x ∧ x < ((w + 1 : Nat) : Int)
        · rw [if_pos h2, if_pos (by omega)]; omega
        · rw [if_neg h2, if_neg (by omega)]; omega
theorem sumA_all : ∀ l : List Int, (∀ x ∈ l, 0 ≤ x ∧ x ≤ 15) → sumA l 16 = fillN l := by
  intro l
  induction l with
  | nil => intro _; simp [sumA, fillN, cnt]
  | cons x l ih =>
    intro h
    have hx := h x (by simp)
    rw [sumA_cons, fillN, ih (fun y hy => h y (by simp [hy])), wt]
    by_cases h0 : 0 < x
    · rw [if_pos h0, if_pos (by omega)]; omega
    · rw [if_neg h0, if_neg (by omega)]; omega
theorem sumA_mono (l : List Int) (v : Nat) : ∀ w, v ≤ w → sumA l v ≤ sumA l w := by
  intro w
  induction w with
  | zero => intro h; rw [show v = 0 from by omega]; exact Nat.le_refl _
  | succ w ih =>
    intro h
    by_cases he : v = w + 1
    · subst he; exact Nat.le_refl _
    · have := ih (by omega)
      rw [sumA]; omega
theorem cnt_take (l : List Int) (i j : Nat) : cnt (l.take i) j ≤ cnt l j := by
  have := cnt_app (l.take i) (l.drop i) j
  rw [List.take_append_drop] at this
  omega
/-- where the walk over all codes stands -/
def atS (l : List Int) (w i : Nat) : Nat := sumA l w + cnt (l.take i) w * 2 ^ (15 - w)
theorem atS_next {l : List Int} {i : Nat} {x : Int} (hp : l[i]? = some x) (w : Nat) : atS l w (i + 1) = atS l w i + (if x = (w : Int) then 2 ^ (15 - w) else 0) := by
  unfold atS
  rw [cnt_next hp, Nat.add_mul]
  split <;> simp <;> omega
theorem atS_end (l : List Int) (w : Nat) (h : 1 ≤ w) : atS l w l.length = atS l (w + 1) 0 := by
  unfold atS
  rw [List.take_length, sumA_next _ _ h]
  simp [cnt]
theorem atS_code {l : List Int} {i w : Nat} (hp : l[i]? = some (w : Int)) (h1 : 1 ≤ w) (h15 : w ≤ 15) : codeAt l i * 2 ^ (15 - w) = atS l w i := by
  rw [code_pos hp (by omega), nx, if_neg (by omega), Nat.add_mul, nxt_sum l w h1 h15, atS]
theorem atS_le (l : List Int) (hl : ∀ x ∈ l, 0 ≤ x ∧ x ≤ 15) (w i : Nat) (h1 : 1 ≤ w) (h15 : w ≤ 15) : atS l w i ≤ fillN l := by
  have h := sumA_mono l (w + 1) 16 (by omega)
  rw [sumA_all l hl, sumA_next _ _ h1] at h
  have h2 := Nat.mul_le_mul_right (2 ^ (15 - w)) (cnt_take l i w)
  unfold atS
  omega
/-- a code is no longer than it says, and no code begins with another -/
theorem code_lt {l : List Int} (hl : ∀ x ∈ l, 0 ≤ x ∧ x ≤ 15) (hf : fillN l ≤ 32768) {i w : Nat} (hp : l[i]? = some (w : Int)) (h1 : 1 ≤ w) (h15 : w ≤ 15) : codeAt l i * 2 ^ (15 - w) + 2 ^ (15 - w) ≤ fillN l := by
  have h := atS_next hp w
  rw [if_pos rfl] at h
  have h2 := atS_le l hl w (i + 1) h1 h15
  rw [atS_code hp h1 h15]
  omega
end Go.Proofs.Ytppnaofebkpbkaa.lens
/-
  bits: the sink: a struct of three cells behind a pointer; put: the walk.
-/
namespace Go.Proofs.Ytppnaofebkpbkaa.bits
open Go.RowKit kit
set_option linter.unusedVariables false

/-- bytes as one number, the lowest first -/
def leN (l : List UInt8) : Nat := l.foldr (fun b r => b.toNat + 256 * r) 0
theorem leN_nil : leN [] = 0 := rfl
theorem leN_cons (b : UInt8) (l : List UInt8) : leN (b :: l) = b.toNat + 256 * leN l := rfl
theorem leN_append (a b : List UInt8) : leN (a ++ b) = leN a + 256 ^ a.length * leN b := by
  induction a with
  | nil => simp [leN_nil]
  | cons x a ih => rw [List.cons_append, leN_cons, leN_cons, ih, List.length_cons, Nat.pow_succ, Nat.mul_add, ← Nat.mul_assoc, Nat.mul_comm 256 (256 ^ a.length)]; omega
theorem leN_lt (l : List UInt8) : leN l < 256 ^ l.length := by
  induction l with
  | nil => simp [leN_nil]
  | cons x l ih => rw [leN_cons, List.length_cons, Nat.pow_succ]; have := x.toNat_lt; omega

/-- the sink at g: what it has put out, what it holds, and how many bits that are -/
structure Sink (w : World) (B g : Nat) (sv : Value) (bs : List UInt8) (held n : Nat) : Prop where
  hg : w.heap[g]? = some (.cells #[sv, .int .u64 (held : Int), .int .i64 (n : Int)] 114 (0, 0))
  own : w.ownsRow B 5 1 sv bs.length (byteCells bs)
  hB : B ≤ g

section
variable {w w' : World} {B g : Nat} {sv : Value} {bs : List UInt8} {held n : Nat}
theorem Sink.c0 (h : Sink w B g sv bs held n) : w.cell? ⟨g, 0, none⟩ = some sv := by rw [cell_of_row _ _ _ _ _ _ h.hg]; rfl
theorem Sink.c1 (h : Sink w B g sv bs held n) : w.cell? ⟨g, 1, none⟩ = some (.int .u64 (held : Int)) := by rw [cell_of_row _ _ _ _ _ _ h.hg]; rfl
theorem Sink.c2 (h : Sink w B g sv bs held n) : w.cell? ⟨g, 2, none⟩ = some (.int .i64 (n : Int)) := by rw [cell_of_row _ _ _ _ _ _ h.hg]; rfl
theorem Sink.fr (h : Sink w B g sv bs held n) (j : Nat) : w.frozen? ⟨g, j, none⟩ = false := frozen_of_row _ _ j _ _ h.hg
theorem Sink.lt (h : Sink w B g sv bs held n) : g < w.heap.size := (Array.getElem?_eq_some_iff.1 h.hg).1
theorem Sink.ne (h : Sink w B g sv bs held n) : sv.ownBlock ≠ some g := by
  intro e
  rcases h.own.2 with ⟨rfl, _⟩ | ⟨g', cap, cur, rfl, _, hg', _⟩
  · simp [Value.ownBlock] at e
  · simp [Value.ownBlock] at e
    subst e
    rw [h.hg] at hg'
    simp at hg'
theorem own_setCell (h : w.ownsRow B 5 1 sv bs.length (byteCells bs)) (hne : sv.ownBlock ≠ some g) (j : Nat) (u : Value) : (w.setCell ⟨g, j, none⟩ u).ownsRow B 5 1 sv bs.length (byteCells bs) := by
  refine ⟨h.1, ?_⟩
  rcases h.2 with h2 | ⟨g', cap, cur, rfl, hb, hg', r⟩
  · exact .inl h2
  · refine .inr ⟨g', cap, cur, rfl, hb, ?_, r⟩
    rw [heap_setCell_other _ _ _ _ (by simp [Value.ownBlock] at hne; simpa using hne)]
    exact hg'
theorem Sink.set1 (h : Sink w B g sv bs held n) (held' : Nat) : Sink (w.setCell ⟨g, 1, none⟩ (.int .u64 (held' : Int))) B g sv bs held' n :=
  ⟨by rw [heap_setCell_same _ _ _ _ _ _ h.hg]; rfl, own_setCell h.own h.ne _ _, h.hB⟩
theorem Sink.set2 (h : Sink w B g sv bs held n) (n' : Nat) : Sink (w.setCell ⟨g, 2, none⟩ (.int .i64 (n' : Int))) B g sv bs held n' :=
  ⟨by rw [heap_setCell_same _ _ _ _ _ _ h.hg]; rfl, own_setCell h.own h.ne _ _, h.hB⟩
/-- behind an append: the new value stored into the first cell -/
theorem Sink.set0 (h : Sink w B g sv bs held n) {sv' : Value} {bs' : List UInt8} (hgr : w.grownBy w' sv.ownBlock) (hown : w'.ownsRow B 5 1 sv' bs'.length (byteCells bs')) :
    Sink (w'.setCell ⟨g, 0, none⟩ sv') B g sv' bs' held n := by
  have hg' : w'.heap[g]? = some (.cells #[sv, .int .u64 (held : Int), .int .i64 (n : Int)] 114 (0, 0)) := (hgr.block g h.lt (fun e => h.ne e.symm)).trans h.hg
  have hne : sv'.ownBlock ≠ some g := by
    intro e
    rcases hown.2 with ⟨rfl, _⟩ | ⟨g', cap, cur, rfl, _, hg2, _⟩
    · simp [Value.ownBlock] at e
    · simp [Value.ownBlock] at e
      subst e
      rw [hg'] at hg2
      simp at hg2
  exact ⟨by rw [heap_setCell_same _ _ _ _ _ _ hg']; rfl, own_setCell hown hne _ _, h.hB⟩
theorem Sink.grownG (h : Sink w B g sv bs held n) (hgr : w.grownBy w' sv.ownBlock) : w'.heap[g]? = some (.cells #[sv, .int .u64 (held : Int), .int .i64 (n : Int)] 114 (0, 0)) := (hgr.block g h.lt (fun e => h.ne e.symm)).trans h.hg
theorem Sink.gc (h : Sink w B g sv bs held n) (hgr : w.grownBy w' sv.ownBlock) : w'.cell? ⟨g, 0, none⟩ = some sv := by rw [cell_of_row _ _ _ _ _ _ (h.grownG hgr)]; rfl
theorem Sink.gf (h : Sink w B g sv bs held n) (hgr : w.grownBy w' sv.ownBlock) : w'.frozen? ⟨g, 0, none⟩ = false := frozen_of_row _ _ 0 _ _ (h.grownG hgr)
theorem Sink.drew (h : Sink w B g sv bs held n) : Sink w.drew B g sv bs held n := ⟨h.hg, h.own.drew, h.hB⟩
theorem Sink.alloc (h : Sink w B g sv bs held n) (o : Obj) : Sink (w.alloc o) B g sv bs held n := ⟨by rw [heap_alloc_old w o h.lt]; exact h.hg, h.own.alloc o, h.hB⟩
end

def nOf (w : World) (g : Nat) : Nat := (intOf ((w.cell? ⟨g, 2, none⟩).getD undef)).toNat

/-- what a put of v, w bits wide, makes of a sink's numbers -/
def PutOk (bs : List UInt8) (held n v w : Nat) (bs' : List UInt8) (held' n' : Nat) : Prop :=
  n' < 8 ∧ held' < 2 ^ n' ∧ leN bs' + held' * 256 ^ bs'.length = leN bs + held * 256 ^ bs.length + v * 2 ^ (8 * bs.length + n) ∧ 8 * bs'.length + n' = 8 * bs.length + n + w

theorem or_shift (held n v : Nat) (hn : n < 8) (hh : held < 2 ^ n) (hv : v < 4294967296) :
    bits BinOp.or IntKind.u64 (held : Int) (IntKind.u64.wrap ((v : Int) * 2 ^ n)) = ((held + v * 2 ^ n : Nat) : Int) := by
  have h1 : (2 : Nat) ^ n ≤ 2 ^ 7 := Nat.pow_le_pow_right (by decide) (by omega)
  have h2 : v * 2 ^ n ≤ v * 2 ^ 7 := Nat.mul_le_mul_left _ h1
  have e : IntKind.u64.wrap ((v : Int) * 2 ^ n) = ((v * 2 ^ n : Nat) : Int) := by
    rw [IntKind.wrap_u64, show ((v : Int) * 2 ^ n) = ((v * 2 ^ n : Nat) : Int) from by simp]
    omega
  rw [e, u64_or_nat _ _ (by omega) (by omega)]
  congr 1
  rw [Nat.or_comm, nat_join n (v * 2 ^ n) held (Nat.mul_mod_left _ _) hh]
  omega

/-- what a call of put does -/
def PutSays (v wd held n B g : Nat) (sv : Value) (bs : List UInt8) (W : World) : Prop :=
    Calls Try.prog 63 #[.pointer (some ⟨g, 0, none⟩), .int .u64 (v : Int), .int .i64 (wd : Int)] W fun e w' => e = .returned (.tuple #[]) ∧ Below B W w' ∧ ∃ sv' bs' held' n', Sink w' B g sv' bs' held' n' ∧ PutOk bs held n v wd bs' held' n'

theorem low32 (v : Nat) (hv : v < 18446744073709551616) : bits BinOp.and IntKind.u64 (v : Int) 4294967295 = ((v % 4294967296 : Nat) : Int) := by
  rw [show (4294967295 : Int) = ((2 ^ 32 - 1 : Nat) : Int) from rfl, u64_and_nat _ _ hv (by decide), Nat.and_two_pow_sub_one_eq_mod]

set_option maxHeartbeats 4000000 in
set_option maxRecDepth 100000 in
theorem put_gen (v0 wd0 held0 n0 B g : Nat) (sv0 : Value) (bs0 : List UInt8) (W0 : World) (hs0 : Sink W0 B g sv0 bs0 held0 n0) (hn0 : n0 < 8) (hh0 : held0 < 2 ^ n0) (hw0 : wd0 ≤ 64) (hv0 : v0 < 2 ^ wd0) (L : Nat) (hL : L ≤ 999950) (hlen0 : bs0.length ≤ L)
    (hrec : 32 < wd0 → ∀ (v held n : Nat) (sv : Value) (bs : List UInt8) (W : World), Sink W B g sv bs held n → n < 8 → held < 2 ^ n → v < 2 ^ 32 → bs.length ≤ L + 10 → PutSays v 32 held n B g sv bs W) :
    PutSays v0 wd0 held0 n0 B g sv0 bs0 W0 := by
  unfold PutSays
  have HR := Lib.hid hrec
  clear hrec
  have HV0 := Lib.hid hv0
  have HH0 := Lib.hid hh0
  obtain ⟨CT, hCT⟩ : ∃ CT, CT = leN bs0 + held0 * 256 ^ bs0.length + v0 * 2 ^ (8 * bs0.length + n0) := ⟨_, rfl⟩
  have HCT := Lib.hid hCT
  clear hv0 hh0 hCT
  go_enter Try.func63, Try.ntmps63
  go_wp2_with (fail)
  go_loopw [1, 2] (fun x y wr => ∃ v wd sv bs held n, x = .int .u64 ((v : Nat) : Int) ∧ y = .int .i64 ((wd : Nat) : Int) ∧ wd ≤ wd0 ∧ Hid (v < 2 ^ wd) ∧ Sink wr B g sv bs held n ∧ n < 8 ∧ Hid (held < 2 ^ n) ∧
      Hid (leN bs + held * 256 ^ bs.length + v * 2 ^ (8 * bs.length + n) = CT) ∧ 8 * bs.length + n + wd = 8 * bs0.length + n0 + wd0 ∧ Below B W0 wr) (fun _ y _ => (intOf y).toNat)
  case atStart => exact ⟨v0, wd0, sv0, bs0, held0, n0, rfl, rfl, Nat.le_refl _, HV0, hs0, hn0, HH0, HCT.out.symm, rfl, Below.refl _ _⟩
  case round =>
  clear hs0
  obtain ⟨v, wd, sv, bs, held, n, rfl, rfl, hwd, HV, hs, hn, HH, HC0, hTT, hb0⟩ := hrel
  by_cases hw : 32 < wd
  · have hwI : (32 : Int) < (wd : Int) := by omega
    have hv64 : v < 18446744073709551616 := Nat.lt_of_lt_of_le HV.out (Nat.pow_le_pow_right (n := 2) (by decide) (show wd ≤ 64 by omega))
    have hl32 := low32 v hv64
    obtain ⟨lo, hlo⟩ : ∃ lo, lo = v % 4294967296 := ⟨_, rfl⟩
    rw [← hlo] at hl32
    have hlo2 : lo < 2 ^ 32 := by rw [hlo]; exact Nat.mod_lt _ (by decide)
    have HL := Lib.hid hlo
    have HL2 := Lib.hid hlo2
    clear hlo hlo2
    go_wp2_with (fail)
    refine (HR.out (by omega) lo held n sv bs _ hs hn HH.out HL2.out (by omega) ).mono ?_
    rintro e w1 ⟨rfl, hb1, sv1, bs1, held1, n1, hs1, hn1, hh1, hN1, hT1⟩
    have HN1 := Lib.hid hN1
    have HH1 := Lib.hid hh1
    have hbz := hb0.trans hb1
    clear hN1 hh1 hs hb1 hb0
    go_wp2_with (fail)
    go_roundw
    case rel =>
      refine ⟨v / 4294967296, wd - 32, sv1, bs1, held1, n1, val_int (by omega), val_int (by omega), by omega, ?_, hs1, hn1, HH1, ?_, by omega, hbz⟩
      · show v / 4294967296 < 2 ^ (wd - 32)
        have := HV.out
        rw [show wd = 32 + (wd - 32) from by omega, Nat.pow_add] at this
        exact Nat.div_lt_of_lt_mul this
      · show _ = CT
        rw [HN1.out, ← HC0.out, HL.out, show 8 * bs1.length + n1 = 8 * bs.length + n + 32 from by omega, Nat.pow_add 2 (8 * bs.length + n) 32]
        have e : v = v % 4294967296 + 4294967296 * (v / 4294967296) := by omega
        have e2 : v % 4294967296 * 2 ^ (8 * bs.length + n) + v / 4294967296 * (2 ^ (8 * bs.length + n) * 2 ^ 32) = v * 2 ^ (8 * bs.length + n) := by
          rw [Nat.mul_comm (2 ^ (8 * bs.length + n)) (2 ^ 32), ← Nat.mul_assoc, ← Nat.add_mul]
          congr 1
          omega
        rw [Nat.add_assoc (leN bs + held * 256 ^ bs.length), e2]
    case measure => simp [intOf]; omega
  · have hv64 : True := trivial
    have hv32 : v < 4294967296 := Nat.lt_of_lt_of_le HV.out (Nat.pow_le_pow_right (n := 2) (by decide) (show wd ≤ 32 by omega))
    have hor := or_shift held n v hn HH.out hv32
    obtain ⟨X, hX⟩ : ∃ X, X = held + v * 2 ^ n := ⟨_, rfl⟩
    rw [← hX] at hor
    have HOR := Lib.hid hor
    have HX := Lib.hid hX
    clear hor hX
    have hwI : (wd : Int) ≤ 32 := by omega
    have c0 := hs.c0
    have c1 := hs.c1
    have c2 := hs.c2
    have f1 := hs.fr 1
    have hnI : (n : Int) < 8 := by omega
    have hlt := hs.lt
    have hlen : bs.length ≤ 1000000 := by omega
    go_wp2_with (fail)
    go_region
    rw [HOR.out]
    have hs1 := (hs.set1 X).drew
    have hb1 : Below B W0 (wr.setCell ⟨g, 1, none⟩ (.int .u64 (X : Int))).drew := (hb0.setCell (p := ⟨g, 1, none⟩) hs.hB _).drew
    generalize (wr.setCell ⟨g, 1, none⟩ (.int .u64 (X : Int))).drew = W1 at hs1 hb1 ⊢
    clear c0 c1 c2 f1
    have c0 := hs1.c0
    have c1 := hs1.c1
    have c2 := hs1.c2
    have f2 := hs1.fr 2
    go_wp2_with (fail)
    have e2 : (n : Int) + (wd : Int) = ((n + wd : Nat) : Int) := by omega
    have hs2 := hs1.set2 (n + wd)
    rw [← e2] at hs2
    have hb2 := hb1.setCell (p := ⟨g, 2, none⟩) hs1.hB (.int .i64 ((n : Int) + (wd : Int)))
    generalize W1.setCell ⟨g, 2, none⟩ (.int .i64 ((n : Int) + (wd : Int))) = W2 at hs2 hb2 ⊢
    have hT : X < 2 ^ (n + wd) := by
      have hh := HH.out
      rw [HX.out, Nat.pow_add, Nat.mul_comm (2 ^ n)]
      have : (v + 1) * 2 ^ n ≤ 2 ^ wd * 2 ^ n := Nat.mul_le_mul_right _ HV.out
      rw [Nat.succ_mul] at this
      omega
    have hN0 : leN bs + X * 256 ^ bs.length = leN bs + held * 256 ^ bs.length + v * 2 ^ (8 * bs.length + n) := by
      rw [HX.out, Nat.add_mul, show (256 : Nat) = 2 ^ 8 from rfl, ← Nat.pow_mul, Nat.mul_assoc, ← Nat.pow_add, Nat.add_comm n]
      omega
    clear c0 c1 c2 f2 e2
    obtain ⟨C, hC⟩ : ∃ C, C = leN bs + held * 256 ^ bs.length + v * 2 ^ (8 * bs.length + n) := ⟨_, rfl⟩
    rw [← hC] at hN0
    have HC := Lib.hid hC
    have HN := Lib.hid hN0
    have HT := Lib.hid hT
    clear hC hN0 hT
    go_loopw [37] (fun _ wr => ∃ sv' bs' held' n', Sink wr B g sv' bs' held' n' ∧ Hid (held' < 2 ^ n') ∧ n' ≤ 47 ∧ Hid (leN bs' + held' * 256 ^ bs'.length = C) ∧ 8 * bs'.length + n' = 8 * bs.length + n + wd ∧ Below B W0 wr) (fun _ wr => nOf wr g)
    case atStart => exact ⟨sv, bs, _, n + wd, by simpa using hs2, HT, by omega, HN, by omega, hb2⟩
    case round =>
      clear hs hs1 hb1 hs2 hb2 HT HN
      obtain ⟨sv', bs', held', n', hs, hh', hn47, hN, hT, hb⟩ := hrel
      have c0 := hs.c0
      have c1 := hs.c1
      have c2 := hs.c2
      have f0 := hs.fr 0
      have hnOld : wr.cell? ⟨g, 2, none⟩ = some (.int .i64 (n' : Int)) := c2
      by_cases h8 : 8 ≤ n'
      · have h8I : (8 : Int) ≤ (n' : Int) := by omega
        have hne := hs.ne
        have hlen' : bs'.length ≤ 2000000 := by omega
        have h63 : bs'.length + 1 ≤ maxLen := by unfold maxLen; omega
        have hsz : B ≤ wr.heap.size := Nat.le_of_lt (Nat.lt_of_le_of_lt hs.hB hs.lt)
        go_wp2_with (fail)
        have hglt := hs.lt
        go_region_law (refine step_app1s put.tBytes (by rfl) _ _ (by rfl) sv' (Value.int .u8 (IntKind.u8.wrap (held' : Int))) bs'.length (byteCells bs') (by rfl) ⟨wr.heap.size, 0, none⟩ (by rfl) (by simp) ((hs.own.alloc _).drew) (by rfl) (by omega) h63 ((hb.alloc hsz _).drew) (Nat.le_trans hsz (by simp)) ?_; intro gv capv w1 hown1 hgr1 hbel1 _ _; have hs3 := (hs.alloc (Obj.cells #[Value.int .u8 (IntKind.u8.wrap (held' : Int))] 5)).drew; have cz := hs3.gc hgr1; have fz := hs3.gf hgr1)
        all_goals
          have hb8 : IntKind.u8.wrap (held' : Int) = ((UInt8.ofNat (held' % 256)).toNat : Int) := by rw [IntKind.wrap_u8']; simp
          rw [byteCells_snoc bs' (UInt8.ofNat (held' % 256)) _ hb8] at hown1
          have hs4 := hs3.set0 hgr1 (bs' := bs' ++ [UInt8.ofNat (held' % 256)]) (by simpa using hown1)
          have hb4 := hbel1.setCell (p := ⟨g, 0, none⟩) hs.hB (.slice (some ⟨gv, 0, none⟩) (bs'.length + 1) capv)
          generalize w1.setCell ⟨g, 0, none⟩ (.slice (some ⟨gv, 0, none⟩) (bs'.length + 1) capv) = w2 at hs4 hb4 ⊢
          clear c0 c1 c2 f0 hown1 hgr1 hs3 cz fz hb8 hbel1 hs
          have c1 := hs4.c1
          have f1 := hs4.fr 1
          go_upto_region 9 with (fail)
          have e1 : (held' : Int) / 256 = ((held' / 256 : Nat) : Int) := by omega
          have hs5 := hs4.set1 (held' / 256)
          rw [← e1] at hs5
          have hb5 := hb4.setCell (p := ⟨g, 1, none⟩) hs4.hB (.int .u64 ((held' : Int) / 256))
          generalize w2.setCell ⟨g, 1, none⟩ (.int .u64 ((held' : Int) / 256)) = w3 at hs5 hb5 ⊢
          clear c1 f1 hs4 hb4 e1
          have c2 := hs5.c2
          have f2 := hs5.fr 2
          have e3 : (n' : Int) - 8 = ((n' - 8 : Nat) : Int) := by omega
          have hs6 := hs5.set2 (n' - 8)
          rw [← e3] at hs6
          have hb6 := hb5.setCell (p := ⟨g, 2, none⟩) hs5.hB (.int .i64 ((n' : Int) - 8))
          have hno : nOf (w3.setCell ⟨g, 2, none⟩ (.int .i64 ((n' : Int) - 8))) g = n' - 8 := by rw [nOf, hs6.c2]; simp [intOf]
          have HS6 := Lib.hid hs6
          have HB6 := Lib.hid hb6
          have HNO := Lib.hid hno
          clear hs6 hb6 hno e3
          go_wp2_with (fail)
          go_roundw
          case rel =>
            have hh2 : held' / 256 < 2 ^ (n' - 8) := by
              have := hh'.out
              rw [show n' = (n' - 8) + 8 from by omega, Nat.pow_add] at this
              exact Nat.div_lt_of_lt_mul (by rw [Nat.mul_comm]; exact this)
            refine ⟨_, bs' ++ [UInt8.ofNat (held' % 256)], held' / 256, n' - 8, by simpa using HS6.out, hh2, by omega, ?_, by simp; omega, HB6.out⟩
            show _ = _
            rw [← hN.out, leN_append, List.length_append, List.length_singleton, Nat.pow_succ, leN_cons, leN_nil]
            have e : (UInt8.ofNat (held' % 256)).toNat = held' % 256 := by simp
            rw [e, Nat.mul_zero, Nat.add_zero, Nat.add_assoc, Nat.mul_comm (256 ^ bs'.length) (held' % 256), Nat.mul_comm (256 ^ bs'.length) 256, ← Nat.mul_assoc, ← Nat.add_mul]
            congr 2
            omega
          case measure =>
            show nOf _ g < nOf _ g
            rw [HNO.out, nOf, hnOld]
            simp [intOf]; omega
      · have hend : n' < 8 := by omega
        go_wp2_with (fail)
        go_end0
        refine ⟨rfl, hb, sv', bs', held', n', hs, hend, hh'.out, ?_, by omega⟩
        rw [hN.out, HC.out, HC0.out, HCT.out]

theorem put32 (v held n B g : Nat) (sv : Value) (bs : List UInt8) (W : World) (hs : Sink W B g sv bs held n) (hn : n < 8) (hh : held < 2 ^ n) (hv : v < 2 ^ 32) (hlen : bs.length ≤ 999010) : PutSays v 32 held n B g sv bs W :=
  put_gen v 32 held n B g sv bs W hs hn hh (by decide) hv 999010 (by decide) hlen (fun h => absurd h (by decide))
theorem put_any (v wd held n B g : Nat) (sv : Value) (bs : List UInt8) (W : World) (hs : Sink W B g sv bs held n) (hn : n < 8) (hh : held < 2 ^ n) (hw : wd ≤ 64) (hv : v < 2 ^ wd) (hlen : bs.length ≤ 999000) : PutSays v wd held n B g sv bs W :=
  put_gen v wd held n B g sv bs W hs hn hh hw hv 999000 (by decide) hlen (fun _ v held n sv bs W hs hn hh hv hl => put32 v held n B g sv bs W hs hn hh hv hl)
end Go.Proofs.Ytppnaofebkpbkaa.bits
/-
  bits.Pack: the walk.
-/
namespace Go.Proofs.Ytppnaofebkpbkaa.bits
open Go.RowKit kit
set_option linter.unusedVariables false

/-- what end answers: the bytes, and one more for what is held -/
def endB (bs : List UInt8) (held n : Nat) : List UInt8 := if n = 0 then bs else bs ++ [UInt8.ofNat held]

set_option maxRecDepth 100000 in
theorem end_any (held n B g : Nat) (sv : Value) (bs : List UInt8) (W : World) (hs : Sink W B g sv bs held n) (hn : n < 8) (hh : held < 2 ^ n) (hlen : bs.length ≤ 2000000) :
    Calls Try.prog 64 #[.pointer (some ⟨g, 0, none⟩)] W fun e w' => e = .returned (.string ⟨(endB bs held n).toArray⟩) ∧ Below B W w' := by
  have c0 := hs.c0
  have c1 := hs.c1
  have c2 := hs.c2
  have f0 := hs.fr 0
  have hlt := hs.lt
  have hh256 : held < 256 := Nat.lt_of_lt_of_le hh (Nat.pow_le_pow_right (n := 2) (by decide) (by omega : n ≤ 8))
  have HH := Lib.hid hh
  clear hh
  by_cases h0 : n = 0
  · have H0 := Lib.hid h0
    have hI : ¬ (0 : Int) < (n : Int) := by omega
    have hconv := string_of_own (src := 36) (dst := 9) Try.underlying36 Try.underlying5 Try.underlying9 hs.own
    clear h0
    go_enter Try.func64, Try.ntmps64
    go_wp2_with (fail)
    go_ret
    exact ⟨by rw [endB, if_pos H0.out]; rfl, Below.refl _ _⟩
  · have H0 := Lib.hid h0
    have hI : (0 : Int) < (n : Int) := by omega
    have h63 : bs.length + 1 ≤ maxLen := by unfold maxLen; omega
    have hsz : B ≤ W.heap.size := Nat.le_of_lt (Nat.lt_of_le_of_lt hs.hB hs.lt)
    clear h0
    go_enter Try.func64, Try.ntmps64
    go_upto_region 2 with (fail)
    go_region_law (refine step_app1s put.tBytes (by rfl) _ _ (by rfl) sv (Value.int .u8 (IntKind.u8.wrap (held : Int))) bs.length (byteCells bs) (by rfl) ⟨W.heap.size, 0, none⟩ (by rfl) (by simp) ((hs.own.alloc _).drew) (by rfl) (by omega) h63 ((((Below.refl B W)).alloc hsz _).drew) (Nat.le_trans hsz (by simp)) ?_; intro gv capv w1 hown1 hgr1 hbel1 _ _; have hs3 := (hs.alloc (Obj.cells #[Value.int .u8 (IntKind.u8.wrap (held : Int))] 5)).drew; have cz := hs3.gc hgr1; have fz := hs3.gf hgr1)
    all_goals
      have hb8 : IntKind.u8.wrap (held : Int) = ((UInt8.ofNat held).toNat : Int) := by rw [IntKind.wrap_u8']; simp
      rw [byteCells_snoc bs (UInt8.ofNat held) _ hb8] at hown1
      have hs4 := hs3.set0 hgr1 (bs' := bs ++ [UInt8.ofNat held]) (by simpa using hown1)
      have hb4 := hbel1.setCell (p := ⟨g, 0, none⟩) hs.hB (.slice (some ⟨gv, 0, none⟩) (bs.length + 1) capv)
      generalize w1.setCell ⟨g, 0, none⟩ (.slice (some ⟨gv, 0, none⟩) (bs.length + 1) capv) = w2 at hs4 hb4 ⊢
      clear c0 c1 c2 f0 hown1 hgr1 hs3 cz fz hb8 hbel1 hs
      have c0 := hs4.c0
      have hconv := string_of_own (src := 36) (dst := 9) Try.underlying36 Try.underlying5 Try.underlying9 hs4.own
      go_wp2_with (fail)
      go_ret
      exact ⟨by rw [endB, if_neg H0.out]; rfl, hb4⟩

/-! ### what Pack answers -/
/-- what goes wrong with a piece: 1: a width out of its bounds; 2: a value that is too large -/
def pieceErr (p : Int × Int) : Nat := if p.2 < 0 ∨ 64 < p.2 then 1 else if p.1 < 2 ^ p.2.toNat then 0 else 2
def firstErr : List (Int × Int) → Nat
  | [] => 0
  | p :: l => if pieceErr p = 0 then firstErr l else pieceErr p
def total : List (Int × Int) → Nat
  | [] => 0
  | p :: l => p.2.toNat + total l
/-- the pieces as one number, the first the lowest -/
def packN : List (Int × Int) → Nat
  | [] => 0
  | p :: l => p.1.toNat + 2 ^ p.2.toNat * packN l
/-- n bytes of N, the lowest first -/
def toLE : Nat → Nat → List UInt8
  | _, 0 => []
  | N, n + 1 => UInt8.ofNat (N % 256) :: toLE (N / 256) n
def packErr (l : List (Int × Int)) : Nat := if firstErr l ≠ 0 then firstErr l else if 65536 < total l then 2 else 0
def packB (l : List (Int × Int)) : List UInt8 := toLE (packN l) ((total l + 7) / 8)

theorem toLE_len (N n : Nat) : (toLE N n).length = n := by
  induction n generalizing N with
  | zero => rfl
  | succ n ih => simp [toLE, ih]
theorem leN_toLE (N n : Nat) : leN (toLE N n) = N % 256 ^ n := by
  induction n generalizing N with
  | zero => simp [toLE, leN_nil, Nat.mod_one]
  | succ n ih =>
    rw [toLE, leN_cons, ih, Nat.pow_succ, Nat.mul_comm (256 ^ n) 256, Nat.mod_mul]
    simp
theorem toLE_leN (l : List UInt8) : toLE (leN l) l.length = l := by
  induction l with
  | nil => rfl
  | cons b l ih =>
    have hb := b.toNat_lt
    rw [List.length_cons, toLE, leN_cons, show (b.toNat + 256 * leN l) / 256 = leN l from by omega, ih, show (b.toNat + 256 * leN l) % 256 = b.toNat from by omega]
    simp
theorem leN_inj {a b : List UInt8} (hl : a.length = b.length) (h : leN a = leN b) : a = b := by
  rw [← toLE_leN a, ← toLE_leN b, h, hl]

theorem firstErr_take (l : List (Int × Int)) (k : Nat) (h : firstErr l = 0) : firstErr (l.take k) = 0 := by
  induction l generalizing k with
  | nil => simp [firstErr]
  | cons p l ih =>
    cases k with
    | zero => rfl
    | succ k =>
      unfold firstErr at h
      split at h
      · rename_i hp
        rw [List.take_succ_cons, firstErr, if_pos hp]
        exact ih k h
      · rename_i hp; exact absurd h hp
theorem firstErr_app (a b : List (Int × Int)) : firstErr (a ++ b) = if firstErr a = 0 then firstErr b else firstErr a := by
  induction a with
  | nil => simp [firstErr]
  | cons p a ih =>
    rw [List.cons_append, firstErr, firstErr]
    by_cases h : pieceErr p = 0
    · rw [if_pos h, if_pos h, ih]
    · rw [if_neg h, if_neg h, if_neg h]
theorem total_app (a b : List (Int × Int)) : total (a ++ b) = total a + total b := by
  induction a with
  | nil => simp [total]
  | cons p a ih => rw [List.cons_append, total, total, ih]; omega
theorem packN_app (a b : List (Int × Int)) : packN (a ++ b) = packN a + 2 ^ total a * packN b := by
  induction a with
  | nil => simp [packN, total]
  | cons p a ih => rw [List.cons_append, packN, packN, total, ih, Nat.mul_add, Nat.pow_add, Nat.mul_assoc]; omega
theorem packN_lt (l : List (Int × Int)) (hp : ∀ p ∈ l, 0 ≤ p.1) (h : firstErr l = 0) : packN l < 2 ^ total l := by
  induction l with
  | nil => simp [packN, total]
  | cons p l ih =>
    unfold firstErr at h
    split at h
    · rename_i h0
      have hi := ih (fun q hq => hp q (by simp [hq])) h
      have hp1 : p.1.toNat < 2 ^ p.2.toNat := by
        unfold pieceErr at h0
        split at h0
        · omega
        · split at h0
          · rename_i h2
            have := hp p (by simp)
            have e : ((2 : Int) ^ p.2.toNat) = ((2 ^ p.2.toNat : Nat) : Int) := by simp
            rw [e] at h2
            omega
          · omega
      rw [packN, total, Nat.pow_add]
      have : 2 ^ p.2.toNat * (packN l + 1) ≤ 2 ^ p.2.toNat * 2 ^ total l := Nat.mul_le_mul_left _ hi
      rw [Nat.mul_add, Nat.mul_one] at this
      omega
    · rename_i h0; exact absurd h h0

theorem pieceErr_le (p : Int × Int) : pieceErr p ≤ 2 := by unfold pieceErr; split <;> (try split) <;> omega

def rowP (p : Int × Int) : List Value := [Value.int .u64 p.1, Value.int .i64 p.2]

theorem packErr_at {xs : List (Int × Int)} {k : Nat} {p : Int × Int} (hp : xs[k]? = some p) (h0 : firstErr (xs.take k) = 0) {e : Nat} (he : pieceErr p = e) (hn : e ≠ 0) : packErr xs = e := by
  have e1 : xs = xs.take k ++ (p :: xs.drop (k + 1)) := by
    conv => lhs; rw [← List.take_append_drop k xs]
    rw [List.drop_eq_getElem_cons (List.getElem?_eq_some_iff.1 hp).1, (List.getElem?_eq_some_iff.1 hp).2]
  have : firstErr xs = e := by
    rw [e1, firstErr_app, if_pos h0, firstErr, if_neg (by rw [he]; exact hn), he]
  rw [packErr, if_pos (by rw [this]; exact hn), this]
theorem firstErr_next {xs : List (Int × Int)} {k : Nat} {p : Int × Int} (hp : xs[k]? = some p) (h0 : firstErr (xs.take k) = 0) (he : pieceErr p = 0) : firstErr (xs.take (k + 1)) = 0 := by
  rw [take_one hp, firstErr_app, if_pos h0, firstErr, if_pos he]; rfl
theorem total_next {xs : List (Int × Int)} {k : Nat} {p : Int × Int} (hp : xs[k]? = some p) : total (xs.take (k + 1)) = total (xs.take k) + p.2.toNat := by
  rw [take_one hp, total_app]; rfl
theorem packN_next {xs : List (Int × Int)} {k : Nat} {p : Int × Int} (hp : xs[k]? = some p) : packN (xs.take (k + 1)) = packN (xs.take k) + p.1.toNat * 2 ^ total (xs.take k) := by
  rw [take_one hp, packN_app, packN, packN, Nat.mul_zero, Nat.add_zero, Nat.mul_comm]
theorem pieceErr_of (v w : Nat) (hw : w ≤ 64) : pieceErr ((v : Int), (w : Int)) = if v < 2 ^ w then 0 else 2 := by
  have e : ((2 : Int) ^ w) = ((2 ^ w : Nat) : Int) := by simp
  unfold pieceErr
  rw [if_neg (by simp only; omega)]
  simp only [Int.toNat_natCast, e, Int.ofNat_lt]
theorem pieceErr_width (v w : Int) (h : w < 0 ∨ 64 < w) : pieceErr (v, w) = 1 := by
  unfold pieceErr; rw [if_pos h]

theorem total_take_le (l : List (Int × Int)) (k : Nat) : total (l.take k) ≤ total l := by
  conv => rhs; rw [← List.take_append_drop k l]
  rw [total_app]; omega
theorem firstErr_mem {l : List (Int × Int)} (h : firstErr l = 0) {p : Int × Int} (hp : p ∈ l) : pieceErr p = 0 := by
  induction l with
  | nil => cases hp
  | cons q l ih =>
    unfold firstErr at h
    split at h
    · rename_i h0
      rcases List.mem_cons.1 hp with rfl | hp
      · exact h0
      · exact ih h hp
    · rename_i h0; exact absurd h h0
theorem pieceErr_ok {v : Nat} {w : Int} (h : pieceErr ((v : Int), w) = 0) : ∃ n : Nat, w = (n : Int) ∧ n ≤ 64 ∧ v < 2 ^ n := by
  unfold pieceErr at h
  split at h
  · omega
  · rename_i h1
    refine ⟨w.toNat, ?_, ?_, ?_⟩
    · simp only at h1; omega
    · simp only at h1; omega
    · split at h
      · rename_i h2
        have e : ((2 : Int) ^ w.toNat) = ((2 ^ w.toNat : Nat) : Int) := by simp
        simp only [e, Int.ofNat_lt] at h2
        exact h2
      · omega
theorem endB_pack {xs : List (Int × Int)} {bs : List UInt8} {held n : Nat} (hn : n < 8) (hh : held < 2 ^ n) (h1 : leN bs + held * 256 ^ bs.length = packN xs) (h2 : 8 * bs.length + n = total xs) : endB bs held n = packB xs := by
  have hh256 : held < 256 := Nat.lt_of_lt_of_le hh (Nat.pow_le_pow_right (n := 2) (by decide) (by omega : n ≤ 8))
  unfold packB endB
  rw [← h2, ← h1]
  split
  · rename_i h0
    subst h0
    have : held = 0 := by simpa using hh
    subst this
    rw [show (8 * bs.length + 0 + 7) / 8 = bs.length from by omega, Nat.zero_mul, Nat.add_zero, toLE_leN]
  · have e : leN (bs ++ [UInt8.ofNat held]) = leN bs + held * 256 ^ bs.length := by
      rw [leN_append, leN_cons, leN_nil]
      rw [show (UInt8.ofNat held).toNat = held from by simp; omega, Nat.mul_comm]; simp
    rw [← e, show (8 * bs.length + n + 7) / 8 = (bs ++ [UInt8.ofNat held]).length from by simp; omega, toLE_leN]

def packS (l : List (Int × Int)) : ByteArray := if packErr l = 0 then ⟨(packB l).toArray⟩ else ⟨#[]⟩

set_option maxHeartbeats 1000000 in
set_option maxRecDepth 100000 in
theorem pack_any (v : Value) (xs : List (Int × Int)) (W : World) (hs : SliceAt W 2 v (xs.map rowP)) (hg : ∀ p ∈ xs, (Lit.int .u64 p.1).wf = true ∧ (Lit.int .i64 p.2).wf = true) (hn : xs.length ≤ 100000000000000000) :
    Calls Try.prog 43 #[v] W fun e w' => e = .returned (.tuple #[.string (packS xs), .int .i64 (packErr xs : Int)]) ∧ Below W.heap.size W w' := by
  rcases hs with ⟨h0, hv⟩ | ⟨b, off, cap, rfl, hcap, hmax, hpos, hblk, hrows⟩
  · obtain rfl : xs = [] := by simpa using h0
    obtain ⟨q, cap, rfl⟩ : ∃ q cap, v = .slice q 0 cap := by
      rcases hv with rfl | ⟨a, cap, rfl⟩
      · exact ⟨_, _, rfl⟩
      · exact ⟨_, _, rfl⟩
    clear hg hn h0 hv
    go_enter Try.func43, Try.ntmps43
    go_wp2_with (fail)
    go_loopw [4, 12] (fun x y wr => x = .int .i64 0 ∧ y = .int .i64 0 ∧ wr = W) (fun _ _ _ => 0)
    case atStart => exact ⟨rfl, rfl, rfl⟩
    case round =>
      obtain ⟨rfl, rfl, rfl⟩ := hrel
      go_wp2_with (fail)
      have hsk : Sink (wr.alloc (Obj.cells #[Value.slice none 0 0, Value.int IntKind.u64 0, Value.int IntKind.i64 0] 114)) wr.heap.size wr.heap.size (.slice none 0 0) [] 0 0 :=
        ⟨heap_alloc_new _ _, World.ownsRow_nil _ _ _ _, Nat.le_refl _⟩
      have hb2 := (Below.refl wr.heap.size wr).alloc (Nat.le_refl _) (Obj.cells #[Value.slice none 0 0, Value.int IntKind.u64 0, Value.int IntKind.i64 0] 114)
      generalize wr.alloc (Obj.cells #[Value.slice none 0 0, Value.int IntKind.u64 0, Value.int IntKind.i64 0] 114) = W2 at hsk hb2 ⊢
      generalize hG : wr.heap.size = G at hsk hb2 ⊢
      replace hG := Lib.hid hG
      go_loopw [44] (fun y ws => y = .int .i64 0 ∧ ws = W2) (fun _ _ => 0)
      case atStart => exact ⟨rfl, rfl⟩
      case round =>
        obtain ⟨rfl, rfl⟩ := hrel
        go_wp2_with (fail)
        refine (end_any 0 0 _ G _ [] _ hsk (by decide) (by decide) (by decide)).mono ?_
        rintro e w' ⟨rfl, hb'⟩
        have hb3 := hb2.trans hb'
        go_wp2_with (fail)
        go_ret2
        exact ⟨rfl, by rw [hG.out]; exact hb3⟩
  · have hlen : (xs.map rowP).length = xs.length := by simp
    rw [hlen] at hcap hpos ⊢
    have hcell : ∀ i p, xs[i]? = some p → W.cell? ⟨b, off + i * 2, none⟩ = some (.int .u64 p.1) ∧ W.cell? ⟨b, off + i * 2 + 1, none⟩ = some (.int .i64 p.2) := by
      intro i p hp
      have h := (hrows i (rowP p) (by rw [List.getElem?_map, hp]; rfl)).2
      exact ⟨h 0 _ rfl, h 1 _ rfl⟩
    have HC := Lib.hid hcell
    clear hrows hcell hlen
    go_enter Try.func43, Try.ntmps43
    go_wp2_with (fail)
    go_loopw [4, 12] (fun x y wr => ∃ k : Nat, k ≤ xs.length ∧ x = .int .i64 (total (xs.take k) : Int) ∧ y = .int .i64 k ∧ Hid (firstErr (xs.take k) = 0) ∧ total (xs.take k) ≤ 64 * k ∧ Below W.heap.size W wr) (fun _ y _ => xs.length - (intOf y).toNat)
    case atStart => exact ⟨0, Nat.zero_le _, rfl, rfl, rfl, by simp [total], Below.refl _ _⟩
    case round =>
      obtain ⟨k, hk, rfl, rfl, hfe, htot, hb⟩ := hrel
      by_cases hlt : k < xs.length
      · obtain ⟨⟨p1, p2⟩, hp⟩ : ∃ p, xs[k]? = some p := ⟨_, List.getElem?_eq_getElem hlt⟩
        have hc := HC.out k _ hp
        have hc0 : wr.cell? ⟨b, off + k * 2, none⟩ = some (.int .u64 p1) := (hb.cell (p := ⟨b, off + k * 2, none⟩) hblk).trans hc.1
        have hc1 : wr.cell? ⟨b, off + k * 2 + 1, none⟩ = some (.int .i64 p2) := (hb.cell (p := ⟨b, off + k * 2 + 1, none⟩) hblk).trans hc.2
        have hltI : (k : Int) < (xs.length : Int) := by omega
        have hw := hg _ (List.mem_of_getElem? hp)
        obtain ⟨v, rfl, hv⟩ := u64_nat hw.1
        have hp2 := i64_bd hw.2
        have HP := Lib.hid hp
        clear hc hp hw
        have hsz : W.heap.size ≤ wr.heap.size := hb.size
        by_cases hneg : p2 < 0
        · have hE : packErr xs = 1 := packErr_at HP.out hfe.out (pieceErr_width _ _ (.inl hneg)) (by decide)
          go_wp2_with (fail)
          go_ret2
          exact ⟨by rw [packS, if_neg (by rw [hE]; decide)]; rfl, hb.alloc hsz _⟩
        · by_cases hbig : 64 < p2
          · have hE : packErr xs = 1 := packErr_at HP.out hfe.out (pieceErr_width _ _ (.inr hbig)) (by decide)
            go_wp2_with (fail)
            go_ret2
            exact ⟨by rw [packS, if_neg (by rw [hE]; decide)]; rfl, hb.alloc hsz _⟩
          · obtain ⟨w, rfl⟩ : ∃ w : Nat, p2 = (w : Int) := ⟨p2.toNat, by omega⟩
            have hw : w ≤ 64 := by omega
            have e2 : ((2 : Int) ^ w) = ((2 ^ w : Nat) : Int) := by simp
            have ht := total_next HP.out
            simp only [Int.toNat_natCast] at ht
            have HT := Lib.hid ht
            have hto : total (xs.take (k + 1)) ≤ 64 * (k + 1) := by omega
            clear ht
            by_cases h64 : (w : Int) < 64
            · by_cases hq : ((v : Int) / 2 ^ w != 0) = true
              · have hE : packErr xs = 2 := packErr_at HP.out hfe.out (by
                  rw [pieceErr_of v w hw, if_neg]
                  intro hlt
                  rw [e2, show (v : Int) / ((2 ^ w : Nat) : Int) = ((v / 2 ^ w : Nat) : Int) from rfl, Nat.div_eq_of_lt hlt] at hq
                  simp at hq) (by decide)
                clear e2 HT
                go_wp2_with (fail)
                go_ret2
                exact ⟨by rw [packS, if_neg (by rw [hE]; decide)]; rfl, hb.alloc hsz _⟩
              · have hE := Lib.hid (firstErr_next HP.out hfe.out (by
                  rw [pieceErr_of v w hw, if_pos]
                  simp at hq
                  rw [e2, show (v : Int) / ((2 ^ w : Nat) : Int) = ((v / 2 ^ w : Nat) : Int) from rfl] at hq
                  rcases (Nat.div_eq_zero_iff.1 (by exact_mod_cast hq) : 2 ^ w = 0 ∨ v < 2 ^ w) with h | h
                  · have := Nat.two_pow_pos w; omega
                  · exact h))
                have hq2 : ((v : Int) / 2 ^ w != 0) = false := by simpa using hq
                clear e2 hq
                go_wp2_with (fail)
                exact ⟨⟨k + 1, by omega, by rw [HT.out]; simp, rfl, hE, hto, hb.alloc hsz _⟩, by show xs.length - (((k : Int) + 1).toNat) < xs.length - ((k : Int).toNat); omega⟩
            · have : w = 64 := by omega
              subst this
              have hE := Lib.hid (firstErr_next HP.out hfe.out (by rw [pieceErr_of v 64 hw, if_pos (by omega)]))
              clear e2
              go_wp2_with (fail)
              exact ⟨⟨k + 1, by omega, by rw [HT.out]; simp, rfl, hE, hto, hb.alloc hsz _⟩, by show xs.length - (((k : Int) + 1).toNat) < xs.length - ((k : Int).toNat); omega⟩
      · have hke : k = xs.length := by omega
        subst hke
        rw [List.take_length] at hfe htot ⊢
        by_cases hT : (65536 : Int) < (total xs : Int)
        · have hE : packErr xs = 2 := by unfold packErr; rw [hfe.out, if_neg (by simp), if_pos (by omega)]
          go_wp2_with (fail)
          go_ret2
          exact ⟨by rw [packS, if_neg (by rw [hE]; decide), hE]; rfl, hb⟩
        · have hE : packErr xs = 0 := by unfold packErr; rw [hfe.out, if_neg (by simp), if_neg (by omega)]
          have HE := Lib.hid hE
          have hT2 : total xs ≤ 65536 := by omega
          have hsz : W.heap.size ≤ wr.heap.size := hb.size
          clear hE
          go_wp2_with (fail)
          have hsk : Sink (wr.alloc (Obj.cells #[Value.slice none 0 0, Value.int IntKind.u64 0, Value.int IntKind.i64 0] 114)) W.heap.size wr.heap.size (.slice none 0 0) [] 0 0 :=
            ⟨heap_alloc_new _ _, World.ownsRow_nil _ _ _ _, hsz⟩
          have hb2 := hb.alloc hsz (Obj.cells #[Value.slice none 0 0, Value.int IntKind.u64 0, Value.int IntKind.i64 0] 114)
          generalize wr.alloc (Obj.cells #[Value.slice none 0 0, Value.int IntKind.u64 0, Value.int IntKind.i64 0] 114) = W2 at hsk hb2 ⊢
          generalize wr.heap.size = G at hsk ⊢
          clear hb hsz hlt hT
          go_loopw [44] (fun y ws => ∃ k : Nat, ∃ sv bs held n, k ≤ xs.length ∧ y = .int .i64 k ∧ Sink ws W.heap.size G sv bs held n ∧ n < 8 ∧ held < 2 ^ n ∧ Hid (leN bs + held * 256 ^ bs.length = packN (xs.take k)) ∧ Hid (8 * bs.length + n = total (xs.take k)) ∧ Below W.heap.size W ws) (fun y _ => xs.length - (intOf y).toNat)
          case atStart => exact ⟨0, _, [], 0, 0, Nat.zero_le _, rfl, hsk, by decide, by decide, rfl, rfl, hb2⟩
          case round =>
            obtain ⟨k, sv, bs, held, n, hk, rfl, hs, hn8, hh, hN, hL, hb⟩ := hrel
            by_cases hlt : k < xs.length
            · obtain ⟨⟨p1, p2⟩, hp⟩ : ∃ p, xs[k]? = some p := ⟨_, List.getElem?_eq_getElem hlt⟩
              have hc := HC.out k _ hp
              have hw := hg _ (List.mem_of_getElem? hp)
              obtain ⟨v, rfl, hv⟩ := u64_nat hw.1
              obtain ⟨w, rfl, hw64, hvw⟩ := pieceErr_ok (firstErr_mem hfe.out (List.mem_of_getElem? hp))
              have hc0 : wr.cell? ⟨b, off + k * 2, none⟩ = some (.int .u64 v) := (hb.cell (p := ⟨b, off + k * 2, none⟩) hblk).trans hc.1
              have hc1 : wr.cell? ⟨b, off + k * 2 + 1, none⟩ = some (.int .i64 w) := (hb.cell (p := ⟨b, off + k * 2 + 1, none⟩) hblk).trans hc.2
              have hltI : (k : Int) < (xs.length : Int) := by omega
              have HP := Lib.hid hp
              have hsz : W.heap.size ≤ wr.heap.size := hb.size
              have HV := Lib.hid hvw
              have HH := Lib.hid hh
              clear hc hp hw hvw hh
              have hbl : bs.length ≤ 999000 := by have := hL.out; have := total_take_le xs k; omega
              go_wp2_with (fail)
              refine (put_any v w held n _ G sv bs _ (hs.alloc _) hn8 HH.out hw64 HV.out hbl).mono ?_
              rintro e w' ⟨rfl, hb', sv', bs', held', n', hs', hn', hh', hN', hL'⟩
              have hb3 := (hb.alloc hsz (Obj.cells #[Value.int .u64 (v : Int), Value.int .i64 (w : Int)] 77)).trans hb'
              have HN := Lib.hid (hN'.trans (show leN bs + held * 256 ^ bs.length + v * 2 ^ (8 * bs.length + n) = packN (xs.take (k + 1)) from by rw [packN_next HP.out, hN.out, hL.out]; rfl))
              have HL := Lib.hid (hL'.trans (show 8 * bs.length + n + w = total (xs.take (k + 1)) from by rw [total_next HP.out, hL.out]; rfl))
              clear hN' hL' hb' hs hb hc0 hc1 hbl
              go_wp2_with (fail)
              exact ⟨⟨k + 1, sv', bs', held', n', by omega, rfl, hs', hn', hh', HN, HL, hb3⟩, by show xs.length - (((k : Int) + 1).toNat) < xs.length - ((k : Int).toNat); omega⟩
            · have hke : k = xs.length := by omega
              subst hke
              have hbl : bs.length ≤ 2000000 := by have := hL.out; have := total_take_le xs xs.length; omega
              rw [List.take_length] at hN hL
              go_wp2_with (fail)
              refine (end_any held n _ G sv bs _ hs hn8 hh hbl).mono ?_
              rintro e w' ⟨rfl, hb'⟩
              have hb3 := hb.trans hb'
              have hS : packS xs = ⟨(endB bs held n).toArray⟩ := by rw [packS, if_pos HE.out, endB_pack hn8 hh hN.out hL.out]
              have HS := Lib.hid hS
              clear hS hn8 hh
              go_wp2_with (fail)
              go_ret2
              exact ⟨by rw [HS.out, HE.out]; rfl, hb3⟩
end Go.Proofs.Ytppnaofebkpbkaa.bits
/-
  bits.From: the closure that reads bits of a text, from a place on.
-/
namespace Go.Proofs.Ytppnaofebkpbkaa.bits
open Go.RowKit kit
set_option linter.unusedVariables false

/-- the reader: where it stands in a, its text in t -/
structure Reader (w : World) (a t : Nat) (at_ : Nat) (s : ByteArray) : Prop where
  ha : w.heap[a]? = some (.cells #[.int .i64 (at_ : Int)] 3 (0, 0))
  ht : w.heap[t]? = some (.cells #[.string s] 9 (0, 0))

/-- the number that the w bits from a place on are, the first the lowest -/
def nextV (s : ByteArray) (at0 w : Nat) : Nat := leN s.data.toList / 2 ^ at0 % 2 ^ w

theorem Reader.ne {w : World} {a t n : Nat} {s : ByteArray} (h : Reader w a t n s) : t ≠ a := by
  intro e
  have := h.ha
  rw [← e, h.ht] at this
  simp at this
theorem Reader.set {w : World} {a t n : Nat} {s : ByteArray} (h : Reader w a t n s) (m : Nat) : Reader (w.setCell ⟨a, 0, none⟩ (.int .i64 (m : Int))) a t m s :=
  ⟨by rw [heap_setCell_same _ _ _ _ _ _ h.ha]; rfl, by rw [heap_setCell_other _ _ _ _ h.ne]; exact h.ht⟩
theorem Reader.drew {w : World} {a t n : Nat} {s : ByteArray} (h : Reader w a t n s) : Reader w.drew a t n s := ⟨h.ha, h.ht⟩

theorem piece_and (b : UInt8) (r tk : Nat) (h : tk ≤ 8) :
    bits BinOp.and IntKind.u64 (IntKind.u64.wrap ((b.toNat : Int) / 2 ^ r)) (IntKind.u64.wrap (IntKind.u64.wrap (2 ^ tk) - 1)) = ((b.toNat / 2 ^ r % 2 ^ tk : Nat) : Int) := by
  have hb := b.toNat_lt
  have h1 : (2 : Nat) ^ tk ≤ 2 ^ 8 := Nat.pow_le_pow_right (by decide) h
  have h2 : 0 < (2 : Nat) ^ tk := Nat.two_pow_pos _
  have h3 : b.toNat / 2 ^ r ≤ b.toNat := Nat.div_le_self _ _
  have e1 : IntKind.u64.wrap ((b.toNat : Int) / 2 ^ r) = ((b.toNat / 2 ^ r : Nat) : Int) := by
    rw [IntKind.wrap_u64, show ((b.toNat : Int) / 2 ^ r) = ((b.toNat / 2 ^ r : Nat) : Int) from by simp]
    generalize b.toNat / 2 ^ r = z at h3 ⊢
    omega
  have e2 : IntKind.u64.wrap (2 ^ tk) = ((2 ^ tk : Nat) : Int) := by
    rw [IntKind.wrap_u64, show ((2 : Int) ^ tk) = ((2 ^ tk : Nat) : Int) from by simp]; omega
  have e3 : IntKind.u64.wrap (((2 ^ tk : Nat) : Int) - 1) = ((2 ^ tk - 1 : Nat) : Int) := by
    rw [IntKind.wrap_u64]; omega
  rw [e1, e2, e3, u64_and_nat _ _ (by omega) (by omega), Nat.and_two_pow_sub_one_eq_mod]
theorem piece_or (V P h tk : Nat) (hV : V < 2 ^ h) (hP : P < 2 ^ tk) (hh : h + tk ≤ 64) :
    bits BinOp.or IntKind.u64 (V : Int) (IntKind.u64.wrap ((P : Int) * 2 ^ h)) = ((V + P * 2 ^ h : Nat) : Int) := by
  have h1 : (P + 1) * 2 ^ h ≤ 2 ^ tk * 2 ^ h := Nat.mul_le_mul_right _ hP
  rw [← Nat.pow_add, Nat.add_mul, Nat.one_mul] at h1
  have h2 : (2 : Nat) ^ (tk + h) ≤ 2 ^ 64 := Nat.pow_le_pow_right (by decide) (by omega)
  have h3 : 0 < (2 : Nat) ^ h := Nat.two_pow_pos _
  have e : IntKind.u64.wrap ((P : Int) * 2 ^ h) = ((P * 2 ^ h : Nat) : Int) := by
    rw [IntKind.wrap_u64, show ((P : Int) * 2 ^ h) = ((P * 2 ^ h : Nat) : Int) from by simp]
    omega
  rw [e, u64_or_nat _ _ (by omega) (by omega)]
  congr 1
  rw [Nat.or_comm, nat_join h (P * 2 ^ h) V (Nat.mul_mod_left _ _) hV]
  omega
/-- the bits of a byte in the number that all bytes are -/
theorem leN_byte (l : List UInt8) (q r tk : Nat) (b : UInt8) (hb : l[q]? = some b) (h : tk + r ≤ 8) : leN l / 2 ^ (8 * q + r) % 2 ^ tk = b.toNat / 2 ^ r % 2 ^ tk := by
  induction l generalizing q with
  | nil => simp at hb
  | cons x l ih =>
    cases q with
    | zero =>
      simp at hb
      subst hb
      rw [leN_cons, Nat.mul_zero, Nat.zero_add, show 256 = 2 ^ r * (2 ^ tk * 2 ^ (8 - (tk + r))) from by rw [← Nat.pow_add, ← Nat.pow_add, show r + (tk + (8 - (tk + r))) = 8 from by omega]]
      rw [Nat.mul_assoc, Nat.add_mul_div_left _ _ (Nat.two_pow_pos _), Nat.mul_assoc, Nat.add_mul_mod_self_left]
    | succ q =>
      have hx := x.toNat_lt
      rw [leN_cons, show 8 * (q + 1) + r = 8 + (8 * q + r) from by omega, Nat.pow_add, ← Nat.div_div_eq_div_mul, show (x.toNat + 256 * leN l) / 2 ^ 8 = leN l from by omega]
      exact ih q (by simpa using hb)
theorem nextV_more (s : ByteArray) (at0 h tk q r : Nat) (hq : q < s.size) (he : at0 + h = 8 * q + r) (ht : tk + r ≤ 8) : nextV s at0 (h + tk) = nextV s at0 h + s[q].toNat / 2 ^ r % 2 ^ tk * 2 ^ h := by
  have e := leN_byte s.data.toList q r tk s[q] (by rw [Lib.size_eq] at hq; simp [ByteArray.getElem_eq_getElem_data, List.getElem?_eq_getElem hq]) ht
  unfold nextV
  rw [← e, ← he, Nat.pow_add, Nat.pow_add, Nat.mod_mul, ← Nat.div_div_eq_div_mul, Nat.mul_comm]

attribute [local go_sem] kit.ite_min kit.ite_max
set_option maxRecDepth 100000 in
theorem next_any (w at0 a t : Nat) (s : ByteArray) (W : World) (hr : Reader W a t at0 s) (hw : w ≤ 64) (hle : at0 + w ≤ 8 * s.size) (hs : s.size ≤ 1000000000000000) :
    Calls Try.prog 73 #[.int .i64 (w : Int), .pointer (some ⟨a, 0, none⟩), .pointer (some ⟨t, 0, none⟩)] W fun e w' => e = .returned (.int .u64 ((nextV s at0 w : Nat) : Int)) ∧ Reader w' a t (at0 + w) s ∧ W.grownBy w' (some a) := by
  go_enter Try.func73, Try.ntmps73
  go_wp2_with (fail)
  have hlt0 : t < W.heap.size := (Array.getElem?_eq_some_iff.1 hr.ht).1
  have hne : some t ≠ some a := by
    intro e
    have := hr.ha
    rw [← Option.some.inj e, hr.ht] at this
    simp at this
  go_loopw [5, 6] (fun v x wr => ∃ h : Nat, h ≤ w ∧ x = .int .i64 (h : Int) ∧ v = .int .u64 ((nextV s at0 h : Nat) : Int) ∧ Reader wr a t (at0 + h) s ∧ W.grownBy wr (some a)) (fun _ x _ => w - (intOf x).toNat)
  case atStart => exact ⟨0, Nat.zero_le _, rfl, by simp [nextV, Nat.mod_one], hr, grown_refl _ _⟩
  case round =>
    obtain ⟨h, hh, rfl, rfl, hr1, hgr⟩ := hrel
    by_cases hlt : h < w
    · obtain ⟨q, r, hqr, hr8⟩ : ∃ q r, at0 + h = 8 * q + r ∧ r < 8 := ⟨(at0 + h) / 8, (at0 + h) % 8, by omega, by omega⟩
      obtain ⟨at1, hat⟩ : ∃ at1, at1 = at0 + h := ⟨_, rfl⟩
      rw [← hat] at hr1 hqr
      have e1 : (at1 : Int) % 8 = (r : Int) := by omega
      have e2 : (at1 : Int) / 8 = (q : Int) := by omega
      have hq : q < s.size := by omega
      have hqI : (q : Int) < (s.size : Int) := by omega
      have hltI : (h : Int) < (w : Int) := by omega
      have c1 := cell_of_one hr1.ha
      have c2 := cell_of_one hr1.ht
      have f1 := free_of_one hr1.ha
      obtain ⟨V, hV⟩ : ∃ V, V = nextV s at0 h := ⟨_, rfl⟩
      rw [← hV]
      have HV := Lib.hid hV
      have HQ := Lib.hid hqr
      have HA := Lib.hid hat
      clear hV hqr hat
      obtain ⟨tk, htk⟩ : ∃ tk : Nat, min (8 - (r : Int)) ((w : Int) - (h : Int)) = (tk : Int) := ⟨(min (8 - (r : Int)) ((w : Int) - (h : Int))).toNat, by omega⟩
      have ht1 : 1 ≤ tk := by omega
      have ht2 : tk + r ≤ 8 := by omega
      have ht3 : h + tk ≤ w := by omega
      have htI : (tk : Int) < 64 := by omega
      have htI0 : (0 : Int) ≤ (tk : Int) := by omega
      go_wp2_with (fail)
      clear htk
      go_region
      rw [piece_and _ _ _ (by omega)]
      have hP : s[q].toNat / 2 ^ r % 2 ^ tk < 2 ^ tk := Nat.mod_lt _ (Nat.two_pow_pos _)
      have hN := nextV_more s at0 h tk q r hq (by rw [← HA.out, HQ.out]) ht2
      have hV : V < 2 ^ h := by rw [HV.out]; exact Nat.mod_lt _ (Nat.two_pow_pos _)
      generalize s[q].toNat / 2 ^ r % 2 ^ tk = P at hP hN ⊢
      rw [← HV.out] at hN
      have hor := piece_or V P h tk hV hP (by omega)
      have HN := Lib.hid hN
      obtain ⟨V', hV'⟩ : ∃ V', V' = V + P * 2 ^ h := ⟨_, rfl⟩
      rw [← hV'] at hor
      have HV' := Lib.hid hV'
      have hr2 := hr1.drew
      have c1 := cell_of_one hr2.ha
      have c2 := cell_of_one hr2.ht
      have f1 := free_of_one hr2.ha
      have hgr2 := grown_drew hgr
      generalize wr.drew = w2 at hr2 c1 c2 f1 hgr2 ⊢
      clear hN hV' hV hP
      have hgo := grown_set hgr2 0 (.int .i64 ((at1 + tk : Nat) : Int))
      have hrd := hr2.set (at1 + tk)
      rw [HA.out, Nat.add_assoc] at hrd hgo
      go_wp2_with (fail)
      refine ⟨⟨h + tk, ht3, by simp, by rw [HN.out, HV'.out], ?_, ?_⟩, by show w - ((h : Int) + (tk : Int)).toNat < w - ((h : Int)).toNat; omega⟩
      · have e : (at1 : Int) + (tk : Int) = ((at0 + (h + tk) : Nat) : Int) := by rw [HA.out]; omega
        rw [e]; exact hrd
      · have e : (at1 : Int) + (tk : Int) = ((at0 + (h + tk) : Nat) : Int) := by rw [HA.out]; omega
        rw [e]; exact hgo
    · obtain rfl : h = w := by omega
      go_wp2_with (fail)
      go_ret
      exact ⟨rfl, hr1, hgr⟩
end Go.Proofs.Ytppnaofebkpbkaa.bits
/-
  code.Write: the walk.
-/
namespace Go.Proofs.Ytppnaofebkpbkaa.code
open Go.RowKit kit sl lens flip
set_option linter.unusedVariables false
def fPc (p : Int × Int) : List Value := [.int .u64 p.1, .int .i64 p.2]
theorem one_fPc (p : Int × Int) : ∀ u ∈ fPc p, u.oneCell' = true := by simp [fPc, Value.oneCell']
theorem flip_ct (n w : Nat) (h1 : n < 18446744073709551616) (hw : w ≤ 64) : Ct Try.prog 62 [.int .u64 (n : Int), .int .i64 (w : Int)] [] fun v H' => v = .int .u64 ((flipN n w : Nat) : Int) ∧ H' = [] :=
  ct_of_calls fun W _ => (flip_any n w h1 W).mono fun e w' ⟨h1, h2⟩ => ⟨by rw [h1, show (max 0 (min 64 (w : Int))).toNat = w by omega], by rw [h2]; exact Below.refl _ _⟩
/-- a sign that has a code -/
def hasC (l : List Int) (x : Int) : Prop := 0 ≤ x ∧ l.getD x.toNat 0 ≠ 0
instance (l : List Int) (x : Int) : Decidable (hasC l x) := by unfold hasC; infer_instance
/-- the piece of a sign -/
def pieceC (l : List Int) (x : Int) : Int × Int := ((flipN (codeAt l x.toNat) (l.getD x.toNat 0).toNat : Nat), l.getD x.toNat 0)
def wrF (l : List Int) : List Int → List (Int × Int) → List (Int × Int) × Int
  | [], out => (out, 0)
  | x :: t, out => if hasC l x then wrF l t (out ++ [pieceC l x]) else ([], 1)
def writeV (l signs : List Int) : List (Int × Int) × Int := if canonE l = 0 then wrF l signs [] else ([], (canonE l : Int))
theorem code_bd {l : List Int} (h : l.length ≤ 320) (hb : ∀ x ∈ l, 0 ≤ x ∧ x ≤ 15) (i : Nat) : codeAt l i ≤ 41943360 := by
  rcases Nat.lt_or_ge i l.length with hi | hi
  · have hx : l[i]? = some l[i] := List.getElem?_eq_getElem hi
    obtain ⟨h0, h15⟩ := hb _ (List.getElem_mem hi)
    obtain ⟨m, hm⟩ := Int.eq_ofNat_of_zero_le h0
    rw [hm] at hx
    rcases Nat.eq_zero_or_pos m with hz | hp
    · subst hz
      rw [code_zero hx]; omega
    · rw [code_pos hx hp]
      exact nx_bd l h i m (by omega)
  · unfold codeAt
    rw [List.getElem?_eq_none hi]
    exact Nat.zero_le _
theorem codes_at (l : List Int) {i : Nat} (h : i < l.length) : (codes l)[i]? = some ((codeAt l i : Nat) : Int) := by
  unfold codes
  rw [List.getElem?_map, List.getElem?_range h]
  rfl
attribute [local irreducible] box own sl old bptr eptr Qt Opr Run Cod Pst Drn
set_option maxRecDepth 100000 in
set_option maxHeartbeats 8000000 in
theorem write_any (q qs : Option Addr) (c cs : Nat) (l signs : List Int) (hg : ∀ x ∈ l, (Lit.int .i64 x).wf = true) (hn : l.length ≤ 1000000000000000) (hs : signs.length ≤ 1000000) :
    Ct Try.prog 41 [.slice q l.length c, .slice qs signs.length cs] [sl 1 (.slice q l.length c) (l.map fI), sl 1 (.slice qs signs.length cs) (signs.map fI)]
      fun v H' => ∃ q2 c2, v = .tuple #[.slice q2 (writeV l signs).1.length c2, .int .i64 (writeV l signs).2] ∧ H' = [own (.slice q2 (writeV l signs).1.length c2) 77 2 (writeV l signs).1.length (flat fPc (writeV l signs).1)] := by
  have C0 := canon_ct q c l hg hn
  by_cases hc : canonE l = 0
  · obtain ⟨hl, hb⟩ := canon_good hc
    have e : writeV l signs = wrF l signs [] := by unfold writeV; rw [if_pos hc]
    rw [e]
    have C1 : Ct Try.prog 61 [.slice q l.length c] [sl 1 (.slice q l.length c) (l.map fI)] fun v H' => ∃ q c, v = .tuple #[.slice q l.length c, .int .i64 0] ∧ H' = [own (.slice q l.length c) 3 1 l.length (flat fI (codes l))] := ct_mono C0 fun v H' h => by
      rcases h with ⟨h1, _⟩ | ⟨_, h2⟩
      · exact absurd hc h1
      · exact h2
    have hcl := codes_len l
    have hca := fun i => codes_at l (i := i)
    obtain ⟨r, hr⟩ : ∃ r, wrF l signs [] = r := ⟨_, rfl⟩
    rw [hr]
    (refine spec_enter Try.func41 Try.ntmps41 rfl rfl fun Fr => ?_; dsimp only [List.cons_append, List.nil_append, ini, Nat.reduceAdd])
    (repeat' (first | (apply run_qg 1; (focus rfl); (focus exact wt); (focus rfl); (focus (exact qg1))) | refine cod_seq ?_ | refine cod_region ?_ | refine run_nil ?_ | refine pst_then ?_))
    (refine run_os wt rfl (opr_call_l rfl (C1) rfl (by exact lpa)) ?_; rintro _ _ ⟨_, ⟨q1, c1, rfl, rfl⟩, rfl⟩; dsimp only [List.cons_append, List.nil_append])
    (repeat' (first | (apply run_qg 1; (focus rfl); (focus exact wt); (focus rfl); (focus (exact qg1))) | (apply run_qg 4; (focus rfl); (focus exact wt); (focus rfl); (focus (first | exact qg4 | exact qs4))) | (apply run_qg 6; (focus rfl); (focus exact wt); (focus rfl); (focus (first | exact qs6 | exact qg6 | exact q_max rfl rfl rfl | exact q_sliceData rfl rfl (by omega) | exact q_sliceDataN rfl rfl | exact q_unsafeStringN rfl rfl rfl | exact q_cap_slice rfl rfl))) | refine cod_seq ?_ | refine cod_region ?_ | refine run_nil ?_ | refine pst_then ?_ | (apply cod_cond_f; (focus rfl)) | refine cod_block ?_ | refine cod_skip ?_))
    refine cod_heap (heap_nil _ 77 2) ?_
    (refine cod_loop_rw (σ := Nat × Option Addr × Nat × List (Int × Int)) (fun x => x.1 ≤ signs.length ∧ x.2.2.2.length = x.1 ∧ wrF l (signs.drop x.1) x.2.2.2 = r) (fun x => [(21, .int .i64 (x.1 : Int)), (8, .slice x.2.1 x.2.2.2.length x.2.2.1)]) (fun x => [own (.slice x.2.1 x.2.2.2.length x.2.2.1) 77 2 x.2.2.2.length (flat fPc x.2.2.2)]) _ (fun x => signs.length - x.1) ((0, none, 0, [])) (by exact ⟨Nat.zero_le _, rfl, hr⟩) (by exact fsa) (by (first | exact HSub.of_picks_rest (by exact pca))) (fun ⟨i, q3, c3, out⟩ ⟨hi, hol, hwr⟩ => ?_); dsimp only [List.cons_append, List.nil_append])
    dsimp only at hi hol hwr ⊢
    rcases Nat.lt_or_ge i signs.length with hlt | hge
    · obtain ⟨x, hx⟩ : ∃ x, signs[i]? = some x := ⟨_, List.getElem?_eq_getElem hlt⟩
      have hdr : signs.drop i = x :: signs.drop (i + 1) := by
        rw [List.drop_eq_getElem_cons hlt]
        have : signs[i] = x := (List.getElem?_eq_some_iff.1 hx).2
        rw [this]
      rw [hdr, wrF] at hwr
      by_cases hh : hasC l x
      · rw [if_pos hh] at hwr
        obtain ⟨h0, h1⟩ := hh
        obtain ⟨j, rfl⟩ := Int.eq_ofNat_of_zero_le h0
        have hjl : j < l.length := by
          rcases Nat.lt_or_ge j l.length with h | h
          · exact h
          · rw [Int.toNat_natCast, List.getD_eq_getElem?_getD, List.getElem?_eq_none h] at h1
            exact absurd rfl h1
        obtain ⟨y, hy⟩ : ∃ y, l[j]? = some y := ⟨_, List.getElem?_eq_getElem hjl⟩
        have hyd : l.getD j 0 = y := by rw [List.getD_eq_getElem?_getD, hy]; rfl
        obtain ⟨y0, y15⟩ := hb y (List.mem_of_getElem? hy)
        obtain ⟨m, rfl⟩ := Int.eq_ofNat_of_zero_le y0
        rw [Int.toNat_natCast, hyd] at h1
        have hcb := code_bd hl hb j
        have hcj := hca j hjl
        have F0 := flip_ct (codeAt l j) m (by omega) (by omega)
        have hpc : pieceC l (j : Int) = (((flipN (codeAt l j) m : Nat) : Int), (m : Int)) := by
          unfold pieceC
          rw [Int.toNat_natCast, hyd, Int.toNat_natCast]
        rw [hpc] at hwr
        have hm0 : ¬ ((m : Int) = 0) := h1
        generalize codeAt l j = cj at *
        have hone : ∀ y, ∀ u ∈ fPc y, u.oneCell' = true := one_fPc
        (repeat' (first | (apply run_qg 1; (focus rfl); (focus exact wt); (focus rfl); (focus (exact qg1))) | (apply run_qg 2; (focus rfl); (focus exact wt); (focus rfl); (focus (first | exact qg2 | exact qs2))) | (apply run_qg 3; (focus rfl); (focus exact wt); (focus rfl); (focus (first | exact qg3 | exact qs3))) | (apply run_qg 4; (focus rfl); (focus exact wt); (focus rfl); (focus (first | exact qg4 | exact qs4))) | (apply run_qg 6; (focus rfl); (focus exact wt); (focus rfl); (focus (first | exact qs6 | exact qg6 | exact q_max rfl rfl rfl | exact q_sliceData rfl rfl (by omega) | exact q_sliceDataN rfl rfl | exact q_unsafeStringN rfl rfl rfl | exact q_cap_slice rfl rfl))) | refine cod_seq ?_ | refine cod_region ?_ | refine run_nil ?_ | refine pst_then ?_ | (apply cod_cond_t; (focus rfl)) | (apply cod_cond_f; (focus rfl)) | refine cod_block ?_ | refine cod_skip ?_))
        (refine cod_drawn_ks (Hq := [_, _]) [1, 2] [] rfl (by kernel_rfl) (by simp only [List.length_cons, List.length_nil, Nat.reduceAdd]; rfl) ?_)
        (repeat' (first | (apply drnK_take 1; (focus rfl); (focus rfl); (focus exact wt); (focus (decide +kernel)); (focus exact hsq); (focus rfl); (focus (exact qg1))) | (apply drnK_take 2; (focus rfl); (focus rfl); (focus exact wt); (focus (decide +kernel)); (focus exact hsq); (focus rfl); (focus (first | exact qg2 | exact qs2))) | (apply drnK_take 3; (focus rfl); (focus rfl); (focus exact wt); (focus (decide +kernel)); (focus exact hsq); (focus rfl); (focus (first | exact qg3 | exact qs3))) | (apply drnK_take 5; (focus rfl); (focus rfl); (focus exact wt); (focus (decide +kernel)); (focus exact hsq); (focus rfl); (focus (exact qg5))) | (apply drnK_take 11; (focus rfl); (focus rfl); (focus exact wt); (focus (decide +kernel)); (focus exact hsq); (focus rfl); (focus (exact qs11))) | (apply drnK_done; (focus (decide +kernel))) | (apply drnK_ones 7; (focus rfl); (focus rfl); (focus (decide +kernel)); (focus exact wt); (focus rfl); (focus (exact opr_call_ls (by rfl) (F0 ..) (by rfl) lpa)); (rintro _ _ ⟨rfl, rfl⟩; refine ⟨(by first | exact fun h => absurd h (by decide) | exact fun _ => hsq), ?_⟩)) | (apply drnK_skip; (focus rfl)) | (apply drnK_wrap; (focus rfl))))
        (refine drnK_at 16 ?_; (first | refine drnK_ones _ (by rfl) (by rfl) (by kernel_rfl) wt (by rfl) (by exact opr_buildSlice rfl rfl rfl (by exact blda) rfl rfl (by decide) rfl) ?_ | refine drnK_onen _ (by rfl) (by rfl) (by kernel_rfl) wt (by exact opr_buildSlice rfl rfl rfl (by exact blda) rfl rfl (by decide) rfl) ?_); rintro _ _ ⟨q9, rfl, rfl⟩; refine ⟨(by first | exact fun h => absurd h (by decide) | exact fun _ => hsq), ?_⟩; (try dsimp only [List.cons_append, List.nil_append]))
        (refine drnK_at 17 ?_; (first | refine drnK_ones _ (by rfl) (by rfl) (by kernel_rfl) wt (by rfl) (by exact (by first | exact opr_append_lit0 (fPc) [(((flipN cj m : Nat) : Int), (m : Int))] rfl rfl rfl (by exact pka) (by rfl) (by rfl) (by intro _; rfl) (by (first | exact one_fS | exact one_fI | exact one_fB | exact one_fP | exact one_fIIS | exact one_fIIIS | exact one_fII | exact one_fSI | exact one_fIIU | exact one_fY | exact one_fBl | exact one_fT | exact one_fE | assumption)) rfl (by simp only [List.length_cons, List.length_nil]; omega) (by (unfold maxLen); simp only [List.length_cons, List.length_nil]; omega) | exact opr_append_lit (fPc) [(((flipN cj m : Nat) : Int), (m : Int))] rfl rfl rfl (by exact pka) (by exact pka) (by rfl) (by rfl) (by first | rfl | omega) (by intro _; rfl) (by (first | exact one_fS | exact one_fI | exact one_fB | exact one_fP | exact one_fIIS | exact one_fIIIS | exact one_fII | exact one_fSI | exact one_fIIU | exact one_fY | exact one_fBl | exact one_fT | exact one_fE | assumption)) rfl (by simp only [List.length_cons, List.length_nil]; omega) (by (unfold maxLen); simp only [List.length_cons, List.length_nil]; omega))) ?_ | refine drnK_onen _ (by rfl) (by rfl) (by kernel_rfl) wt (by exact (by first | exact opr_append_lit0 (fPc) [(((flipN cj m : Nat) : Int), (m : Int))] rfl rfl rfl (by exact pka) (by rfl) (by rfl) (by intro _; rfl) (by (first | exact one_fS | exact one_fI | exact one_fB | exact one_fP | exact one_fIIS | exact one_fIIIS | exact one_fII | exact one_fSI | exact one_fIIU | exact one_fY | exact one_fBl | exact one_fT | exact one_fE | assumption)) rfl (by simp only [List.length_cons, List.length_nil]; omega) (by (unfold maxLen); simp only [List.length_cons, List.length_nil]; omega) | exact opr_append_lit (fPc) [(((flipN cj m : Nat) : Int), (m : Int))] rfl rfl rfl (by exact pka) (by exact pka) (by rfl) (by rfl) (by first | rfl | omega) (by intro _; rfl) (by (first | exact one_fS | exact one_fI | exact one_fB | exact one_fP | exact one_fIIS | exact one_fIIIS | exact one_fII | exact one_fSI | exact one_fIIU | exact one_fY | exact one_fBl | exact one_fT | exact one_fE | assumption)) rfl (by simp only [List.length_cons, List.length_nil]; omega) (by (unfold maxLen); simp only [List.length_cons, List.length_nil]; omega))) ?_); rintro _ _ ⟨q4, c4, rfl, rfl⟩; refine ⟨(by first | exact fun h => absurd h (by decide) | exact fun _ => hsq), ?_⟩; (try dsimp only [List.cons_append, List.nil_append]))
        (repeat' (first | (apply run_qg 1; (focus rfl); (focus exact wt); (focus rfl); (focus (exact qg1))) | (apply run_qg 4; (focus rfl); (focus exact wt); (focus rfl); (focus (first | exact qg4 | exact qs4))) | refine cod_region ?_ | refine run_nil ?_ | refine pst_then ?_ | refine pst_block ?_ | (apply drnK_take 1; (focus rfl); (focus rfl); (focus exact wt); (focus (decide +kernel)); (focus exact hsq); (focus rfl); (focus (exact qg1))) | (apply drnK_end; (focus (decide +kernel)))))
        refine pst_again ((i + 1, q4, c4, out ++ [(((flipN cj m : Nat) : Int), (m : Int))])) ?_ (FSub.of (by (try dsimp only); exact fsa)) (by (try dsimp only); exact hsa) ?_
        · exact ⟨hlt, by dsimp only; rw [List.length_append, List.length_singleton, hol], hwr⟩
        · dsimp only; omega
      · rw [if_neg hh] at hwr
        subst hwr
        by_cases hx0 : x < 0
        · (repeat' (first | (apply run_qg 1; (focus rfl); (focus exact wt); (focus rfl); (focus (exact qg1))) | (apply run_qg 2; (focus rfl); (focus exact wt); (focus rfl); (focus (first | exact qg2 | exact qs2))) | (apply run_qg 3; (focus rfl); (focus exact wt); (focus rfl); (focus (first | exact qg3 | exact qs3))) | (apply run_qg 4; (focus rfl); (focus exact wt); (focus rfl); (focus (first | exact qg4 | exact qs4))) | refine cod_seq ?_ | refine cod_region ?_ | refine run_nil ?_ | refine pst_then ?_ | (apply cod_cond_t; (focus rfl)) | refine cod_block ?_ | refine cod_ret ?_ | refine cod_skip ?_ | refine pst_block_ret ?_ | refine pst_then_ret ?_ | (apply run_offs; (focus rfl); (focus rfl); (focus rfl))))
          exact pst_fin rfl (by exact resa) _ (⟨none, 0, rfl, rfl⟩) (by exact hsa)
        · obtain ⟨j, rfl⟩ := Int.eq_ofNat_of_zero_le (by omega : 0 ≤ x)
          rcases Nat.lt_or_ge j l.length with hjl | hjl
          · obtain ⟨y, hy⟩ : ∃ y, l[j]? = some y := ⟨_, List.getElem?_eq_getElem hjl⟩
            have hyd : l.getD j 0 = y := by rw [List.getD_eq_getElem?_getD, hy]; rfl
            have hy0 : y = 0 := by
              unfold hasC at hh
              rw [Int.toNat_natCast, hyd] at hh
              exact Decidable.byContradiction fun h => hh ⟨by omega, h⟩
            subst hy0
            (repeat' (first | (apply run_qg 1; (focus rfl); (focus exact wt); (focus rfl); (focus (exact qg1))) | (apply run_qg 2; (focus rfl); (focus exact wt); (focus rfl); (focus (first | exact qg2 | exact qs2))) | (apply run_qg 3; (focus rfl); (focus exact wt); (focus rfl); (focus (first | exact qg3 | exact qs3))) | (apply run_qg 4; (focus rfl); (focus exact wt); (focus rfl); (focus (first | exact qg4 | exact qs4))) | (apply run_qg 6; (focus rfl); (focus exact wt); (focus rfl); (focus (first | exact qs6 | exact qg6 | exact q_max rfl rfl rfl | exact q_sliceData rfl rfl (by omega) | exact q_sliceDataN rfl rfl | exact q_unsafeStringN rfl rfl rfl | exact q_cap_slice rfl rfl))) | refine cod_seq ?_ | refine cod_region ?_ | refine run_nil ?_ | refine pst_then ?_ | (apply cod_cond_t; (focus rfl)) | refine cod_block ?_ | refine cod_ret ?_ | refine cod_skip ?_ | refine pst_block_ret ?_ | refine pst_then_ret ?_))
            exact pst_fin rfl (by exact resa) _ (⟨none, 0, rfl, rfl⟩) (by exact hsa)
          · (repeat' (first | (apply run_qg 1; (focus rfl); (focus exact wt); (focus rfl); (focus (exact qg1))) | (apply run_qg 2; (focus rfl); (focus exact wt); (focus rfl); (focus (first | exact qg2 | exact qs2))) | (apply run_qg 3; (focus rfl); (focus exact wt); (focus rfl); (focus (first | exact qg3 | exact qs3))) | (apply run_qg 4; (focus rfl); (focus exact wt); (focus rfl); (focus (first | exact qg4 | exact qs4))) | (apply run_qg 6; (focus rfl); (focus exact wt); (focus rfl); (focus (first | exact qs6 | exact qg6 | exact q_max rfl rfl rfl | exact q_sliceData rfl rfl (by omega) | exact q_sliceDataN rfl rfl | exact q_unsafeStringN rfl rfl rfl | exact q_cap_slice rfl rfl))) | refine cod_seq ?_ | refine cod_region ?_ | refine run_nil ?_ | refine pst_then ?_ | (apply cod_cond_t; (focus rfl)) | refine cod_block ?_ | refine cod_ret ?_ | refine cod_skip ?_ | refine pst_block_ret ?_ | refine pst_then_ret ?_ | (apply run_offs; (focus rfl); (focus rfl); (focus rfl))))
            exact pst_fin rfl (by exact resa) _ (⟨none, 0, rfl, rfl⟩) (by exact hsa)
    · have hil : i = signs.length := by omega
      subst hil
      rw [List.drop_length, wrF] at hwr
      subst hwr
      (repeat' (first | (apply run_qg 1; (focus rfl); (focus exact wt); (focus rfl); (focus (exact qg1))) | (apply run_qg 4; (focus rfl); (focus exact wt); (focus rfl); (focus (first | exact qg4 | exact qs4))) | refine cod_seq ?_ | refine cod_region ?_ | refine run_nil ?_ | refine pst_then ?_ | (apply cod_cond_f; (focus rfl)) | refine cod_exit ?_ | refine cod_ret ?_ | refine pst_block_here ?_ | refine pst_then_exit ?_))
      exact pst_fin rfl (by exact resa) _ (⟨q3, c3, rfl, rfl⟩) (by exact hsa)
  · have e : writeV l signs = ([], (canonE l : Int)) := by unfold writeV; rw [if_neg hc]
    rw [e]
    have C1 : Ct Try.prog 61 [.slice q l.length c] [sl 1 (.slice q l.length c) (l.map fI)] fun v H' => v = .tuple #[.slice none 0 0, .int .i64 (canonE l : Int)] ∧ H' = [] := ct_mono C0 fun v H' h => by
      rcases h with ⟨_, h2⟩ | ⟨h1, _⟩
      · exact h2
      · exact absurd h1 hc
    generalize canonE l = ce at *
    (refine spec_enter Try.func41 Try.ntmps41 rfl rfl fun Fr => ?_; dsimp only [List.cons_append, List.nil_append, ini, Nat.reduceAdd])
    (repeat' (first | (apply run_qg 1; (focus rfl); (focus exact wt); (focus rfl); (focus (exact qg1))) | (apply run_qg 4; (focus rfl); (focus exact wt); (focus rfl); (focus (first | exact qg4 | exact qs4))) | refine cod_seq ?_ | refine cod_region ?_ | refine run_nil ?_ | refine pst_then ?_ | (apply cod_cond_t; (focus rfl)) | refine cod_ret ?_ | refine pst_then_ret ?_ | (apply run_osg 7; (focus rfl); (focus exact wt); (focus rfl); (focus (exact opr_call_ls (by rfl) (C1 ..) (by rfl) lpa)); (rintro _ _ ⟨rfl, rfl⟩))))
    exact pst_fin rfl (by exact resa) _ (⟨none, 0, rfl, rfl⟩) (by exact hsa)
end Go.Proofs.Ytppnaofebkpbkaa.code
/-
  Codes as numbers: what is read is the code that is written.
-/
namespace Go.Proofs.Ytppnaofebkpbkaa.code
open Go.RowKit kit sl lens flip Go.Proofs.Ytppnaofebkpbkaa.bits
set_option linter.unusedVariables false
theorem bit_num (s : List UInt8) (k : Nat) : bitS s k = leN s / 2 ^ k % 2 := by
  unfold bitS
  rcases Nat.lt_or_ge (k / 8) s.length with h | h
  · have hb : s[k / 8]? = some s[k / 8] := List.getElem?_eq_getElem h
    have h1 := leN_byte s (k / 8) (k % 8) 1 _ hb (by omega)
    rw [Nat.div_add_mod, Nat.pow_one] at h1
    rw [h1, List.getD_eq_getElem?_getD, hb]
    rfl
  · have h1 := leN_lt s
    have h2 : (256 : Nat) ^ s.length = 2 ^ (8 * s.length) := by rw [Nat.pow_mul]
    have h3 : 2 ^ (8 * s.length) ≤ 2 ^ k := Nat.pow_le_pow_right (by decide) (by omega)
    have h4 : leN s / 2 ^ k = 0 := Nat.div_eq_of_lt (by omega)
    rw [List.getD_eq_getElem?_getD, List.getElem?_eq_none h, h4]
    simp
/-- the signs of one length -/
theorem idx_at {l : List Int} {w : Nat} : ∀ k, k ≤ l.length → ∀ j x, (idx l w k)[j]? = some x → ∃ i : Nat, x = (i : Int) ∧ i < k ∧ l[i]? = some (w : Int) ∧ cnt (l.take i) w = j := by
  intro k
  induction k with
  | zero => intro _ j x h; rw [idx_zero] at h; simp at h
  | succ k ih =>
    intro hk j x h
    obtain ⟨y, hy⟩ : ∃ y, l[k]? = some y := ⟨_, List.getElem?_eq_getElem (by omega)⟩
    rw [idx_next hy] at h
    split at h
    · rename_i hyw
      rcases Nat.lt_or_ge j (idx l w k).length with hj | hj
      · rw [List.getElem?_append_left hj] at h
        obtain ⟨i, h1, h2, h3, h4⟩ := ih (by omega) j x h
        exact ⟨i, h1, by omega, h3, h4⟩
      · rw [List.getElem?_append_right hj] at h
        have hj0 : j - (idx l w k).length = 0 := by
          have := (List.getElem?_eq_some_iff.1 h).1
          simpa using this
        rw [hj0] at h
        have hx := Option.some.inj h
        exact ⟨k, hx.symm, by omega, by rw [hy, hyw], by rw [← idx_cnt l w k (by omega)]; omega⟩
    · obtain ⟨i, h1, h2, h3, h4⟩ := ih (by omega) j x h
      exact ⟨i, h1, by omega, h3, h4⟩
theorem idx_of {l : List Int} {w i : Nat} (hi : l[i]? = some (w : Int)) : ∀ k, k ≤ l.length → i < k → (idx l w k)[cnt (l.take i) w]? = some (i : Int) := by
  intro k
  induction k with
  | zero => intro _ h; omega
  | succ k ih =>
    intro hk hik
    obtain ⟨y, hy⟩ : ∃ y, l[k]? = some y := ⟨_, List.getElem?_eq_getElem (by omega)⟩
    rw [idx_next hy]
    rcases Nat.lt_or_ge i k with h | h
    · have h1 := ih (by omega) h
      split
      · rw [List.getElem?_append_left (List.getElem?_eq_some_iff.1 h1).1]; exact h1
      · exact h1
    · have hik2 : i = k := by omega
      subst hik2
      rw [hy] at hi
      rw [if_pos (Option.some.inj hi), ← idx_cnt l w i (by omega), List.getElem?_append_right (Nat.le_refl _), Nat.sub_self]
      rfl
theorem sgs_at {l : List Int} {w j : Nat} (h1 : 1 ≤ w) (h15 : w ≤ 15) (hj : j < cnt l w) : (sgs l 15)[(sgs l (w - 1)).length + j]? = (idx l w l.length)[j]? := by
  have hl : (idx l w l.length).length = cnt l w := by have := idx_cnt l w l.length (Nat.le_refl _); rwa [List.take_length] at this
  have key : ∀ b, w ≤ b → (sgs l b)[(sgs l (w - 1)).length + j]? = (idx l w l.length)[j]? := by
    intro b
    induction b with
    | zero => intro h; omega
    | succ b ih =>
      intro h
      rw [sgs]
      rcases Nat.lt_or_ge w (b + 1) with h2 | h2
      · rw [List.getElem?_append_left, ih (by omega)]
        have h3 := sgs_mono l w b (by omega)
        have h4 : sgs l w = sgs l (w - 1) ++ idx l w l.length := by
          obtain ⟨v, rfl⟩ : ∃ v, w = v + 1 := ⟨w - 1, by omega⟩
          rfl
        rw [h4, List.length_append, hl] at h3
        omega
      · have h3 : w = b + 1 := by omega
        subst h3
        rw [Nat.add_sub_cancel, List.getElem?_append_right (by omega), Nat.add_sub_cancel_left]
  exact key 15 h15
theorem flip_mod (n : Nat) : ∀ w, flipN (n % 2 ^ w) w = flipN n w := by
  intro w
  apply Nat.eq_of_testBit_eq
  intro i
  rw [flipN_bit, flipN_bit, Nat.testBit_mod_two_pow]
  by_cases h : i < w
  · have h2 : w - 1 - i < w := by omega
    simp [h, h2]
  · simp [h]
theorem flip_next (s : List UInt8) (k w : Nat) : flipN (leN s / 2 ^ k) w * 2 + bitS s (k + w) = flipN (leN s / 2 ^ k) (w + 1) := by
  rw [bit_num, flipN, Nat.div_div_eq_div_mul, ← Nat.pow_add]
/-- what one sign says -/
theorem one_says {l : List Int} {s : List UInt8} {k x : Nat} {y : Int} : ∀ f w, f + w = 16 → oneF (fA l 16) (fR l 16) (fC l) (sgs l 15) s f w (flipN (leN s / 2 ^ k) w) (k + w) = (y, x, 0) →
    ∃ v i : Nat, 1 ≤ v ∧ v ≤ 15 ∧ x = k + v ∧ y = (i : Int) ∧ l[i]? = some (v : Int) ∧ codeAt l i = flipN (leN s / 2 ^ k) v := by
  intro f
  induction f with
  | zero => intro w _ h; exact absurd (congrArg (fun r => r.2.2) h) (by simp [oneF])
  | succ f ih =>
    intro w hw h
    rw [oneF] at h
    split at h
    · rename_i h1
      obtain ⟨h2, h3, h4⟩ := h1
      have hA : fA l 16 w = (nxt l w : Int) := by unfold fA; rw [if_pos (by omega)]
      have hR : fR l 16 w = ((sgs l (w - 1)).length : Int) := by unfold fR; rw [if_pos (by omega)]
      have hC : fC l w = (cnt l w : Int) := by unfold fC; rw [if_neg (by omega)]
      rw [hA] at h3
      rw [hA, hC] at h4
      have e1 := congrArg (fun r => r.1) h
      have e2 := congrArg (fun r => r.2.1) h
      dsimp only at e1 e2
      rw [hR, hA] at e1
      obtain ⟨j, hj⟩ : ∃ j, flipN (leN s / 2 ^ k) w = nxt l w + j := ⟨flipN (leN s / 2 ^ k) w - nxt l w, by omega⟩
      rw [hj] at e1 h3 h4
      have hjl : j < cnt l w := by omega
      rw [show (((sgs l (w - 1)).length : Int) + ((nxt l w + j : Nat) : Int) - (nxt l w : Int)).toNat = (sgs l (w - 1)).length + j by omega, List.getD_eq_getElem?_getD, sgs_at (by omega) (by omega) hjl] at e1
      have hl : (idx l w l.length).length = cnt l w := by have := idx_cnt l w l.length (Nat.le_refl _); rwa [List.take_length] at this
      obtain ⟨z, hz⟩ : ∃ z, (idx l w l.length)[j]? = some z := ⟨_, List.getElem?_eq_getElem (by omega)⟩
      obtain ⟨i, g1, g2, g3, g4⟩ := idx_at l.length (Nat.le_refl _) j z hz
      rw [hz] at e1
      refine ⟨w, i, by omega, by omega, by omega, by rw [← e1, ← g1]; rfl, g3, ?_⟩
      rw [code_pos g3 (by omega), hj]
      unfold nx
      rw [if_neg (by omega), g4]
    · split at h
      · exact absurd (congrArg (fun r => r.2.2) h) (by simp)
      · split at h
        · exact absurd (congrArg (fun r => r.2.2) h) (by simp)
        · rw [Nat.add_assoc, flip_next] at h
          exact ih (w + 1) (by omega) h
end Go.Proofs.Ytppnaofebkpbkaa.code
/-
  What is read is written as just those bits.
-/
namespace Go.Proofs.Ytppnaofebkpbkaa.code
open Go.RowKit kit sl lens flip Go.Proofs.Ytppnaofebkpbkaa.bits
set_option linter.unusedVariables false
theorem piece_of {l : List Int} {i v : Nat} (h : l[i]? = some (v : Int)) : pieceC l (i : Int) = (((flipN (codeAt l i) v : Nat) : Int), (v : Int)) := by
  have hd : l.getD i 0 = (v : Int) := by rw [List.getD_eq_getElem?_getD, h]; rfl
  unfold pieceC
  rw [Int.toNat_natCast, hd, Int.toNat_natCast]
theorem hasC_of {l : List Int} {i v : Nat} (h : l[i]? = some (v : Int)) (hv : 1 ≤ v) : hasC l (i : Int) := by
  have hd : l.getD i 0 = (v : Int) := by rw [List.getD_eq_getElem?_getD, h]; rfl
  unfold hasC
  rw [Int.toNat_natCast, hd]
  omega
theorem wrF_all {l : List Int} (t : List Int) : ∀ out, (∀ x ∈ t, hasC l x) → wrF l t out = (out ++ t.map (pieceC l), 0) := by
  induction t with
  | nil => intro out _; simp [wrF]
  | cons x t ih =>
    intro out h
    rw [wrF, if_pos (h x List.mem_cons_self), ih _ fun y hy => h y (List.mem_cons_of_mem _ hy)]
    simp
/-- signs that are read, and the bits that say them -/
structure Said (l : List Int) (s : List UInt8) (k k2 n : Nat) (t : List Int) : Prop where
  len : t.length = n
  has : ∀ x ∈ t, hasC l x
  le : k ≤ k2
  tot : total (t.map (pieceC l)) = k2 - k
  num : packN (t.map (pieceC l)) = leN s / 2 ^ k % 2 ^ (k2 - k)
  err : firstErr (t.map (pieceC l)) = 0
  bd : total (t.map (pieceC l)) ≤ 15 * n
  pc : ∀ x ∈ t, ∃ a v : Nat, a < 32768 ∧ v ≤ 15 ∧ pieceC l x = ((a : Int), (v : Int))
theorem read_said {l : List Int} {s : List UInt8} : ∀ (n k k2 : Nat) (out r : List Int), readF l s n k out = (r, k2, 0) → ∃ t, r = out ++ t ∧ Said l s k k2 n t := by
  intro n
  induction n with
  | zero =>
    intro k k2 out r h
    rw [readF] at h
    cases h
    exact ⟨[], by simp, rfl, by simp, Nat.le_refl _, by simp [total], by rw [Nat.sub_self, Nat.pow_zero, Nat.mod_one]; rfl, rfl, by simp [total], by simp⟩
  | succ n ih =>
    intro k k2 out r h
    rw [readF] at h
    split at h
    · rename_i h1
      rcases ho : one l s k with ⟨x, k1, e⟩
      rw [ho] at h h1
      dsimp only at h h1
      subst h1
      unfold one at ho
      obtain ⟨v, i, v1, v15, hk1, rfl, hi, hc⟩ := one_says 16 0 rfl (by rw [Nat.add_zero]; exact ho)
      obtain ⟨t, h2, h3⟩ := ih k1 k2 _ _ h
      have hp := piece_of hi
      have hf : flipN (codeAt l i) v = leN s / 2 ^ k % 2 ^ v := by rw [hc, flipN_twice]
      have hle := h3.le
      have htot := h3.tot
      have hbd := h3.bd
      refine ⟨(i : Int) :: t, by rw [h2]; simp, by rw [List.length_cons, h3.len], ?_, by omega, ?_, ?_, ?_, ?_, ?_⟩
      · intro y hy
        rcases List.mem_cons.1 hy with rfl | hy
        · exact hasC_of hi v1
        · exact h3.has y hy
      · rw [List.map_cons, total, hp, htot]
        simp only [Int.toNat_natCast]
        omega
      · rw [List.map_cons, packN, hp, h3.num, hf]
        simp only [Int.toNat_natCast]
        rw [hk1, Nat.pow_add, ← Nat.div_div_eq_div_mul, show k2 - k = v + (k2 - k1) by omega, Nat.pow_add, Nat.mod_mul, hk1]
      · rw [List.map_cons, firstErr, hp, pieceErr_of _ _ (by omega), if_pos (flipN_lt _ _), if_pos rfl]
        exact h3.err
      · rw [List.map_cons, total, hp]
        simp only [Int.toNat_natCast]
        omega
      · intro y hy
        rcases List.mem_cons.1 hy with rfl | hy
        · refine ⟨_, v, ?_, v15, hp⟩
          have h5 := flipN_lt (codeAt l i) v
          have h6 : 2 ^ v ≤ 2 ^ 15 := Nat.pow_le_pow_right (by decide) v15
          omega
        · exact h3.pc y hy
    · rename_i h1
      have h9 := congrArg (fun r => r.2.2) h
      exact absurd h9 h1
theorem said_pack {l : List Int} {s : List UInt8} {k2 n : Nat} {t : List Int} (h : Said l s 0 k2 n t) (hn : n ≤ 2000) : packErr (t.map (pieceC l)) = 0 ∧ packB (t.map (pieceC l)) = toLE (leN s % 2 ^ k2) ((k2 + 7) / 8) := by
  have h1 := h.tot
  have h2 := h.bd
  have h3 := h.num
  rw [Nat.sub_zero] at h1 h3
  rw [Nat.pow_zero, Nat.div_one] at h3
  refine ⟨?_, ?_⟩
  · unfold packErr
    rw [h.err, if_neg (by simp), if_neg (by omega)]
  · unfold packB
    rw [h3, h1]
/-- the bits of a text -/
def bitsL (s : List UInt8) : List Int := (List.range (8 * s.length)).map fun k => ((bitS s k : Nat) : Int)
theorem bitsL_len (s : List UInt8) : (bitsL s).length = 8 * s.length := by simp [bitsL]
theorem bits_same {s t : List UInt8} {k2 : Nat} (ht : t = toLE (leN s % 2 ^ k2) ((k2 + 7) / 8)) (hk : k2 ≤ 8 * s.length) : (bitsL t).take k2 = (bitsL s).take k2 := by
  have hl : t.length = (k2 + 7) / 8 := by rw [ht, toLE_len]
  have hN : leN t = leN s % 2 ^ k2 := by
    rw [ht, leN_toLE]
    apply Nat.mod_eq_of_lt
    have h1 : leN s % 2 ^ k2 < 2 ^ k2 := Nat.mod_lt _ (Nat.two_pow_pos _)
    have h2 : (256 : Nat) ^ ((k2 + 7) / 8) = 2 ^ (8 * ((k2 + 7) / 8)) := by rw [Nat.pow_mul]
    have h3 : 2 ^ k2 ≤ 2 ^ (8 * ((k2 + 7) / 8)) := Nat.pow_le_pow_right (by decide) (by omega)
    omega
  apply List.ext_getElem?
  intro j
  rw [List.getElem?_take, List.getElem?_take]
  split
  · rename_i hj
    unfold bitsL
    rw [List.getElem?_map, List.getElem?_map, List.getElem?_range (by omega), List.getElem?_range (by omega)]
    have : bitS t j = bitS s j := by
      rw [bit_num, bit_num, hN]
      have h1 := Nat.testBit_mod_two_pow (leN s) k2 j
      rw [decide_eq_true hj, Bool.true_and, Nat.testBit_eq_decide_div_mod_eq, Nat.testBit_eq_decide_div_mod_eq, decide_eq_decide] at h1
      have h2 := Nat.mod_lt (leN s % 2 ^ k2 / 2 ^ j) (by decide : 0 < 2)
      have h3 := Nat.mod_lt (leN s / 2 ^ j) (by decide : 0 < 2)
      omega
    simp [this]
  · rfl
end Go.Proofs.Ytppnaofebkpbkaa.code
/-
  What is written is read as it was.
-/
namespace Go.Proofs.Ytppnaofebkpbkaa.code
open Go.RowKit kit sl lens flip Go.Proofs.Ytppnaofebkpbkaa.bits
set_option linter.unusedVariables false
theorem flip_front {n c w : Nat} (hc : c < 2 ^ w) (h : n % 2 ^ w = flipN c w) {v : Nat} (hv : v ≤ w) : flipN n v = c / 2 ^ (w - v) := by
  apply Nat.eq_of_testBit_eq
  intro i
  rw [flipN_bit, Nat.testBit_div_two_pow]
  by_cases hi : i < v
  · have h1 : (n % 2 ^ w).testBit (v - 1 - i) = (flipN c w).testBit (v - 1 - i) := by rw [h]
    rw [Nat.testBit_mod_two_pow, flipN_bit, decide_eq_true (by omega : v - 1 - i < w), Bool.true_and, Bool.true_and, show w - 1 - (v - 1 - i) = w - v + i by omega] at h1
    rw [decide_eq_true hi, Bool.true_and, h1, Nat.add_comm]
  · rw [decide_eq_false hi, Bool.false_and]
    symm
    apply Nat.testBit_lt_two_pow
    exact Nat.lt_of_lt_of_le hc (Nat.pow_le_pow_right (by decide) (by omega))
theorem canon_fill {l : List Int} (h : canonE l = 0) : fillN l ≤ 32768 := by
  unfold canonE at h
  split at h
  · rename_i h9; exact absurd h h9
  · split at h
    · cases h
    · omega
theorem one_reads {l : List Int} {s : List UInt8} {k w i : Nat} (hc : canonE l = 0) (hi : l[i]? = some (w : Int)) (hw : 1 ≤ w) (hn : leN s / 2 ^ k % 2 ^ w = flipN (codeAt l i) w) (hk : k + w ≤ 8 * s.length) : one l s k = ((i : Int), k + w, 0) := by
  obtain ⟨hl, hb⟩ := canon_good hc
  have h15 : w ≤ 15 := by
    have := (hb _ (List.mem_of_getElem? hi)).2
    omega
  have hlt := code_lt hb (canon_fill hc) hi hw h15
  have hfl := canon_fill hc
  have hcode := code_pos hi (by omega)
  unfold nx at hcode
  rw [if_neg (by omega)] at hcode
  have hcn : cnt (l.take i) w + 1 ≤ cnt l w := by
    have h1 := cnt_next hi w
    rw [if_pos rfl] at h1
    have h2 := cnt_take l (i + 1) w
    omega
  have hsum := nxt_sum l w hw h15
  obtain ⟨c, hcc⟩ : ∃ c, codeAt l i = c := ⟨_, rfl⟩
  rw [hcc] at hlt hcode hn
  have hcw : c < 2 ^ w := by
    have h1 : (c + 1) * 2 ^ (15 - w) ≤ 2 ^ w * 2 ^ (15 - w) := by
      rw [← Nat.pow_add, show w + (15 - w) = 15 by omega, Nat.add_mul, Nat.one_mul]
      omega
    exact Nat.le_of_mul_le_mul_right h1 (Nat.two_pow_pos _)
  have key : ∀ f v, f + v = 16 → v ≤ w → oneF (fA l 16) (fR l 16) (fC l) (sgs l 15) s f v (flipN (leN s / 2 ^ k) v) (k + v) = ((i : Int), k + w, 0) := by
    intro f
    induction f with
    | zero => intro v h1 h2; omega
    | succ f ih =>
      intro v hv hvw
      have hA : fA l 16 v = (nxt l v : Int) := by unfold fA; rw [if_pos (by omega)]
      have hR : fR l 16 v = ((sgs l (v - 1)).length : Int) := by unfold fR; rw [if_pos (by omega)]
      have hfr := flip_front hcw hn hvw
      rw [oneF]
      rcases Nat.lt_or_ge v w with h1 | h1
      · have hC : 0 < v → fC l v = (cnt l v : Int) := fun h => by unfold fC; rw [if_neg (by omega)]
        rw [if_neg, if_neg, if_neg, Nat.add_assoc, flip_next]
        · exact ih (v + 1) (by omega) (by omega)
        · omega
        · have hlo : lonB (fA l 16) (fC l) (flipN (leN s / 2 ^ k) v) v = true := by
            refine (lonB_iff _ _ _ _).2 ⟨w, by omega, hvw, ?_⟩
            have hAw : fA l 16 w = (nxt l w : Int) := by unfold fA; rw [if_pos (by omega)]
            have hCw : fC l w = (cnt l w : Int) := by unfold fC; rw [if_neg (by omega)]
            unfold lonT
            rw [hAw, hCw, hfr]
            have g1 : c / 2 ^ (w - v) * 2 ^ (w - v) ≤ c := Nat.div_mul_le_self _ _
            have g2 : c < c / 2 ^ (w - v) * 2 ^ (w - v) + 2 ^ (w - v) := by
              have g3 := Nat.div_add_mod c (2 ^ (w - v))
              have g4 := Nat.mod_lt c (Nat.two_pow_pos (w - v))
              rw [Nat.mul_comm] at g3
              omega
            generalize c / 2 ^ (w - v) * 2 ^ (w - v) = z at *
            generalize 2 ^ (w - v) = p at *
            refine ⟨by omega, by omega, by omega⟩
          rw [hlo]
          decide
        · rintro ⟨h2, h3, h4⟩
          rw [hA, hC h2, hfr] at h4
          have h5 : nxt l v + cnt l v ≤ c / 2 ^ (w - v) := by
            rw [Nat.le_div_iff_mul_le (Nat.two_pow_pos _)]
            have h6 := nxt_sum l v (by omega) (by omega)
            have h7 := sumA_next l v (by omega)
            have h8 := sumA_mono l (v + 1) w (by omega)
            have h9 : (nxt l v + cnt l v) * 2 ^ (w - v) * 2 ^ (15 - w) ≤ c * 2 ^ (15 - w) := by
              rw [Nat.mul_assoc, ← Nat.pow_add, show w - v + (15 - w) = 15 - v by omega, Nat.add_mul, h6, ← h7]
              refine Nat.le_trans h8 ?_
              rw [← hsum]
              exact Nat.mul_le_mul_right _ (by omega)
            exact Nat.le_of_mul_le_mul_right h9 (Nat.two_pow_pos _)
          omega
      · have hvw2 : v = w := by omega
        subst hvw2
        have hC : fC l v = (cnt l v : Int) := by unfold fC; rw [if_neg (by omega)]
        rw [Nat.sub_self, Nat.pow_zero, Nat.div_one] at hfr
        rw [hA, hC, hR, hfr, if_pos (by omega)]
        have hj : cnt (l.take i) v < cnt l v := by omega
        have hil : i < l.length := (List.getElem?_eq_some_iff.1 hi).1
        rw [show (((sgs l (v - 1)).length : Int) + (c : Int) - (nxt l v : Int)).toNat = (sgs l (v - 1)).length + cnt (l.take i) v by omega, List.getD_eq_getElem?_getD, sgs_at hw h15 hj, idx_of hi l.length (Nat.le_refl _) hil]
        rfl
  exact key 16 0 rfl (Nat.zero_le _)
/-- all signs -/
theorem read_back {l : List Int} {s : List UInt8} (hc : canonE l = 0) : ∀ (t : List Int) (k : Nat) (out : List Int), (∀ x ∈ t, hasC l x) → leN s / 2 ^ k % 2 ^ total (t.map (pieceC l)) = packN (t.map (pieceC l)) → k + total (t.map (pieceC l)) ≤ 8 * s.length → readF l s t.length k out = (out ++ t, k + total (t.map (pieceC l)), 0) := by
  intro t
  induction t with
  | nil => intro k out _ _ _; simp [readF, total]
  | cons x t ih =>
    intro k out hh hnum hk
    obtain ⟨h0, h1⟩ := hh x List.mem_cons_self
    obtain ⟨i, rfl⟩ := Int.eq_ofNat_of_zero_le h0
    rw [Int.toNat_natCast] at h1
    obtain ⟨hl, hb⟩ := canon_good hc
    have hil : i < l.length := by
      rcases Nat.lt_or_ge i l.length with h | h
      · exact h
      · rw [List.getD_eq_getElem?_getD, List.getElem?_eq_none h] at h1
        exact absurd rfl h1
    obtain ⟨y, hy⟩ : ∃ y, l[i]? = some y := ⟨_, List.getElem?_eq_getElem hil⟩
    obtain ⟨y0, y15⟩ := hb y (List.mem_of_getElem? hy)
    obtain ⟨w, rfl⟩ := Int.eq_ofNat_of_zero_le y0
    have hyd : l.getD i 0 = (w : Int) := by rw [List.getD_eq_getElem?_getD, hy]; rfl
    rw [hyd] at h1
    have hp := piece_of hy
    rw [List.map_cons, total, packN, hp] at hnum
    rw [List.map_cons, total, hp] at hk ⊢
    simp only [Int.toNat_natCast] at hnum hk ⊢
    generalize hT : total (t.map (pieceC l)) = T at *
    have hfl := flipN_lt (codeAt l i) w
    have e1 : leN s / 2 ^ k % 2 ^ w = flipN (codeAt l i) w := by
      have h2 := congrArg (fun z => z % 2 ^ w) hnum
      rw [Nat.pow_add, Nat.mod_mul_right_mod, Nat.add_mul_mod_self_left, Nat.mod_eq_of_lt hfl] at h2
      exact h2
    have e2 : leN s / 2 ^ (k + w) % 2 ^ T = packN (t.map (pieceC l)) := by
      rw [Nat.pow_add 2 w T, Nat.mod_mul, e1] at hnum
      have h3 : 2 ^ w * (leN s / 2 ^ k / 2 ^ w % 2 ^ T) = 2 ^ w * packN (t.map (pieceC l)) := by omega
      have h4 := Nat.eq_of_mul_eq_mul_left (Nat.two_pow_pos w) h3
      rw [Nat.pow_add, ← Nat.div_div_eq_div_mul]
      exact h4
    have ho := one_reads hc hy (by omega) e1 (by omega)
    rw [List.length_cons, readF, ho]
    dsimp only
    rw [if_pos rfl, ih (k + w) _ (fun y hy => hh y (List.mem_cons_of_mem _ hy)) e2 (by omega)]
    simp [Nat.add_assoc]
end Go.Proofs.Ytppnaofebkpbkaa.code
/-
  CodeBack: the plain law.
-/
namespace Go.Proofs.Ytppnaofebkpbkaa.code
open Go.RowKit kit sl lens flip Go.Proofs.Ytppnaofebkpbkaa.bits
set_option linter.unusedVariables false
theorem wrF_ok {l : List Int} (t : List Int) : ∀ out, (wrF l t out).2 = 0 → ∀ x ∈ t, hasC l x := by
  induction t with
  | nil => intro out _ x hx; cases hx
  | cons y t ih =>
    intro out h x hx
    rw [wrF] at h
    split at h
    · rename_i h1
      rcases List.mem_cons.1 hx with rfl | hx
      · exact h1
      · exact ih _ h x hx
    · simp at h
theorem wrF_bad {l : List Int} (t : List Int) : ∀ out, (wrF l t out).2 ≠ 0 → (wrF l t out).1 = [] := by
  induction t with
  | nil => intro out h; exact absurd rfl h
  | cons y t ih =>
    intro out h
    rw [wrF] at h ⊢
    split
    · rename_i h1
      rw [if_pos h1] at h
      exact ih _ h
    · rfl
theorem write_bad {l t : List Int} (h : (writeV l t).2 ≠ 0) : (writeV l t).1 = [] := by
  unfold writeV at h ⊢
  split
  · rename_i h1
    rw [if_pos h1] at h
    exact wrF_bad t [] h
  · rfl
/-- of what is written with no error -/
structure Wrote (l t : List Int) (ps : List (Int × Int)) : Prop where
  canon : canonE l = 0
  has : ∀ x ∈ t, hasC l x
  eq : ps = t.map (pieceC l)
  wf : ∀ p ∈ ps, ∃ a v : Nat, a < 2 ^ v ∧ v ≤ 15 ∧ p = ((a : Int), (v : Int))
theorem wrote {l t : List Int} {ps : List (Int × Int)} (h : writeV l t = (ps, 0)) : Wrote l t ps := by
  have hc : canonE l = 0 := by
    refine Decidable.byContradiction fun h1 => ?_
    unfold writeV at h
    rw [if_neg h1] at h
    have h9 := congrArg (fun r => r.2) h
    have h10 : (canonE l : Int) = 0 := h9
    omega
  have h2 : wrF l t [] = (ps, 0) := by unfold writeV at h; rwa [if_pos hc] at h
  have hh := wrF_ok t [] (by rw [h2])
  have hp : ps = t.map (pieceC l) := by
    rw [wrF_all t [] hh] at h2
    exact (congrArg Prod.fst h2).symm
  refine ⟨hc, hh, hp, fun p hpm => ?_⟩
  rw [hp] at hpm
  obtain ⟨x, hx, rfl⟩ := List.mem_map.1 hpm
  obtain ⟨h0, h1⟩ := hh x hx
  obtain ⟨hl, hb⟩ := canon_good hc
  obtain ⟨i, rfl⟩ := Int.eq_ofNat_of_zero_le h0
  rw [Int.toNat_natCast] at h1
  have hil : i < l.length := by
    rcases Nat.lt_or_ge i l.length with h | h
    · exact h
    · rw [List.getD_eq_getElem?_getD, List.getElem?_eq_none h] at h1
      exact absurd rfl h1
  obtain ⟨y, hy⟩ : ∃ y, l[i]? = some y := ⟨_, List.getElem?_eq_getElem hil⟩
  obtain ⟨y0, y15⟩ := hb y (List.mem_of_getElem? hy)
  obtain ⟨w, rfl⟩ := Int.eq_ofNat_of_zero_le y0
  exact ⟨_, w, flipN_lt _ _, by omega, piece_of hy⟩
theorem err_zero {ps : List (Int × Int)} (h : ∀ p ∈ ps, ∃ a v : Nat, a < 2 ^ v ∧ v ≤ 15 ∧ p = ((a : Int), (v : Int))) : firstErr ps = 0 ∧ total ps ≤ 15 * ps.length := by
  induction ps with
  | nil => exact ⟨rfl, Nat.le_refl _⟩
  | cons p ps ih =>
    obtain ⟨a, v, h1, h2, rfl⟩ := h p List.mem_cons_self
    obtain ⟨h3, h4⟩ := ih fun q hq => h q (List.mem_cons_of_mem _ hq)
    refine ⟨?_, ?_⟩
    · rw [firstErr, pieceErr_of _ _ (by omega), if_pos h1, if_pos rfl]
      exact h3
    · rw [total, List.length_cons]
      simp only [Int.toNat_natCast]
      omega
/-- all together -/
theorem back_law {l t : List Int} {ah ps : List (Int × Int)} (hw : Wrote l t ps) (ht : t.length ≤ 1024) (ha : firstErr ah = 0) (hat : total ah ≤ 8000) (hap : ∀ p ∈ ah, 0 ≤ p.1) :
    packErr (ah ++ ps) = 0 ∧ (packB (ah ++ ps)).length ≤ 3000 ∧ total ah ≤ 8 * (packB (ah ++ ps)).length ∧ readV l (packB (ah ++ ps)) (total ah) t.length = (t, total ah + total ps, 0) := by
  obtain ⟨e1, e2⟩ := err_zero hw.wf
  have hpl : ps.length = t.length := by rw [hw.eq, List.length_map]
  have htot := total_app ah ps
  have hlen : (packB (ah ++ ps)).length = (total ah + total ps + 7) / 8 := by unfold packB; rw [toLE_len, htot]
  have hp0 : ∀ p ∈ ps, 0 ≤ p.1 := fun p hp => by
    obtain ⟨a, v, _, _, rfl⟩ := hw.wf p hp
    exact Int.natCast_nonneg a
  have h1 := packN_lt ah hap ha
  have h2 := packN_lt ps hp0 e1
  have hN : leN (packB (ah ++ ps)) = packN ah + 2 ^ total ah * packN ps := by
    unfold packB
    rw [leN_toLE, packN_app, htot]
    apply Nat.mod_eq_of_lt
    have h3 : (256 : Nat) ^ ((total ah + total ps + 7) / 8) = 2 ^ (8 * ((total ah + total ps + 7) / 8)) := by rw [Nat.pow_mul]
    have h4 : 2 ^ (total ah + total ps) ≤ 2 ^ (8 * ((total ah + total ps + 7) / 8)) := Nat.pow_le_pow_right (by decide) (by omega)
    have h5 : 2 ^ total ah * packN ps + 2 ^ total ah ≤ 2 ^ total ah * 2 ^ total ps := by
      rw [← Nat.mul_succ]
      exact Nat.mul_le_mul_left _ h2
    rw [← Nat.pow_add] at h5
    omega
  refine ⟨?_, by rw [hlen]; omega, by rw [hlen]; omega, ?_⟩
  · unfold packErr
    rw [firstErr_app, if_pos ha, e1, if_neg (by simp), if_neg (by omega)]
  · have h6 : leN (packB (ah ++ ps)) / 2 ^ total ah % 2 ^ total (t.map (pieceC l)) = packN (t.map (pieceC l)) := by
      rw [← hw.eq, hN, Nat.add_mul_div_left _ _ (Nat.two_pow_pos _), Nat.div_eq_of_lt h1, Nat.zero_add, Nat.mod_eq_of_lt h2]
    have h7 := read_back hw.canon t (total ah) [] hw.has h6 (by rw [← hw.eq, hlen]; omega)
    unfold readV
    rw [if_pos hw.canon, h7, ← hw.eq]
    rfl
end Go.Proofs.Ytppnaofebkpbkaa.code
