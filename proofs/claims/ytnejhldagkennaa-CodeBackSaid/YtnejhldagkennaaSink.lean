/-
  bits: the sink: a struct of three cells behind a pointer; put: the walk.
-/
import Derived.Test.YtnejhldagkennaaRows
import Derived.Test.YtnejhldagkennaaKit3
import Derived.Test.YtnejhldagkennaaRow
import Derived.Test.YtnejhldagkennaaPut
namespace Go.Proofs.Ytnejhldagkennaa.bits
open Go.RowKit kit
set_option linter.unusedVariables false

/-- bytes as one number, the lowest first -/
def leN (l : List UInt8) : Nat := l.foldr (fun b r => b.toNat + 256 * r) 0
theorem leN_nil : leN [] = 0 := rfl
theorem leN_cons (b : UInt8) (l : List UInt8) : leN (b :: l) = b.toNat + 256 * leN l := rfl
theorem leN_append (a b : List UInt8) : leN (a ++ b) = leN a + 256 ^ a.length * leN b := by
  induction a with
  | nil => simp [leN_nil]
  | cons x a ih => rw [List.cons_append, leN_cons, leN_cons, ih, List.length_cons, Nat.pow_succ, Nat.mul_add, ← Nat.mul_assoc, Nat.mul_comm 256 (256 ^ a.length)]; omega
theorem leN_lt (l : List UInt8) : leN l < 256 ^ l.length := by
  induction l with
  | nil => simp [leN_nil]
  | cons x l ih => rw [leN_cons, List.length_cons, Nat.pow_succ]; have := x.toNat_lt; omega

/-- the sink at g: what it has put out, what it holds, and how many bits that are -/
structure Sink (w : World) (B g : Nat) (sv : Value) (bs : List UInt8) (held n : Nat) : Prop where
  hg : w.heap[g]? = some (.cells #[sv, .int .u64 (held : Int), .int .i64 (n : Int)] 79 (0, 0))
  own : w.ownsRow B 5 1 sv bs.length (byteCells bs)
  hB : B ≤ g

section
variable {w w' : World} {B g : Nat} {sv : Value} {bs : List UInt8} {held n : Nat}
theorem Sink.c0 (h : Sink w B g sv bs held n) : w.cell? ⟨g, 0, none⟩ = some sv := by rw [cell_of_row _ _ _ _ _ _ h.hg]; rfl
theorem Sink.c1 (h : Sink w B g sv bs held n) : w.cell? ⟨g, 1, none⟩ = some (.int .u64 (held : Int)) := by rw [cell_of_row _ _ _ _ _ _ h.hg]; rfl
theorem Sink.c2 (h : Sink w B g sv bs held n) : w.cell? ⟨g, 2, none⟩ = some (.int .i64 (n : Int)) := by rw [cell_of_row _ _ _ _ _ _ h.hg]; rfl
theorem Sink.fr (h : Sink w B g sv bs held n) (j : Nat) : w.frozen? ⟨g, j, none⟩ = false := frozen_of_row _ _ j _ _ h.hg
theorem Sink.lt (h : Sink w B g sv bs held n) : g < w.heap.size := (Array.getElem?_eq_some_iff.1 h.hg).1
theorem Sink.ne (h : Sink w B g sv bs held n) : sv.ownBlock ≠ some g := by
  intro e
  rcases h.own.2 with ⟨rfl, _⟩ | ⟨g', cap, cur, rfl, _, hg', _⟩
  · simp [Value.ownBlock] at e
  · simp [Value.ownBlock] at e
    subst e
    rw [h.hg] at hg'
    simp at hg'
theorem own_setCell (h : w.ownsRow B 5 1 sv bs.length (byteCells bs)) (hne : sv.ownBlock ≠ some g) (j : Nat) (u : Value) : (w.setCell ⟨g, j, none⟩ u).ownsRow B 5 1 sv bs.length (byteCells bs) := by
  refine ⟨h.1, ?_⟩
  rcases h.2 with h2 | ⟨g', cap, cur, rfl, hb, hg', r⟩
  · exact .inl h2
  · refine .inr ⟨g', cap, cur, rfl, hb, ?_, r⟩
    rw [heap_setCell_other _ _ _ _ (by simp [Value.ownBlock] at hne; simpa using hne)]
    exact hg'
theorem Sink.set1 (h : Sink w B g sv bs held n) (held' : Nat) : Sink (w.setCell ⟨g, 1, none⟩ (.int .u64 (held' : Int))) B g sv bs held' n :=
  ⟨by rw [heap_setCell_same _ _ _ _ _ _ h.hg]; rfl, own_setCell h.own h.ne _ _, h.hB⟩
theorem Sink.set2 (h : Sink w B g sv bs held n) (n' : Nat) : Sink (w.setCell ⟨g, 2, none⟩ (.int .i64 (n' : Int))) B g sv bs held n' :=
  ⟨by rw [heap_setCell_same _ _ _ _ _ _ h.hg]; rfl, own_setCell h.own h.ne _ _, h.hB⟩
/-- behind an append: the new value stored into the first cell -/
theorem Sink.set0 (h : Sink w B g sv bs held n) {sv' : Value} {bs' : List UInt8} (hgr : w.grownBy w' sv.ownBlock) (hown : w'.ownsRow B 5 1 sv' bs'.length (byteCells bs')) :
    Sink (w'.setCell ⟨g, 0, none⟩ sv') B g sv' bs' held n := by
  have hg' : w'.heap[g]? = some (.cells #[sv, .int .u64 (held : Int), .int .i64 (n : Int)] 79 (0, 0)) := (hgr.block g h.lt (fun e => h.ne e.symm)).trans h.hg
  have hne : sv'.ownBlock ≠ some g := by
    intro e
    rcases hown.2 with ⟨rfl, _⟩ | ⟨g', cap, cur, rfl, _, hg2, _⟩
    · simp [Value.ownBlock] at e
    · simp [Value.ownBlock] at e
      subst e
      rw [hg'] at hg2
      simp at hg2
  exact ⟨by rw [heap_setCell_same _ _ _ _ _ _ hg']; rfl, own_setCell hown hne _ _, h.hB⟩
theorem Sink.grownG (h : Sink w B g sv bs held n) (hgr : w.grownBy w' sv.ownBlock) : w'.heap[g]? = some (.cells #[sv, .int .u64 (held : Int), .int .i64 (n : Int)] 79 (0, 0)) := (hgr.block g h.lt (fun e => h.ne e.symm)).trans h.hg
theorem Sink.gc (h : Sink w B g sv bs held n) (hgr : w.grownBy w' sv.ownBlock) : w'.cell? ⟨g, 0, none⟩ = some sv := by rw [cell_of_row _ _ _ _ _ _ (h.grownG hgr)]; rfl
theorem Sink.gf (h : Sink w B g sv bs held n) (hgr : w.grownBy w' sv.ownBlock) : w'.frozen? ⟨g, 0, none⟩ = false := frozen_of_row _ _ 0 _ _ (h.grownG hgr)
theorem Sink.drew (h : Sink w B g sv bs held n) : Sink w.drew B g sv bs held n := ⟨h.hg, h.own.drew, h.hB⟩
theorem Sink.alloc (h : Sink w B g sv bs held n) (o : Obj) : Sink (w.alloc o) B g sv bs held n := ⟨by rw [heap_alloc_old w o h.lt]; exact h.hg, h.own.alloc o, h.hB⟩
end

def nOf (w : World) (g : Nat) : Nat := (intOf ((w.cell? ⟨g, 2, none⟩).getD undef)).toNat

/-- what a put of v, w bits wide, makes of a sink's numbers -/
def PutOk (bs : List UInt8) (held n v w : Nat) (bs' : List UInt8) (held' n' : Nat) : Prop :=
  n' < 8 ∧ held' < 2 ^ n' ∧ leN bs' + held' * 256 ^ bs'.length = leN bs + held * 256 ^ bs.length + v * 2 ^ (8 * bs.length + n) ∧ 8 * bs'.length + n' = 8 * bs.length + n + w

theorem or_shift (held n v : Nat) (hn : n < 8) (hh : held < 2 ^ n) (hv : v < 4294967296) :
    bits BinOp.or IntKind.u64 (held : Int) (IntKind.u64.wrap ((v : Int) * 2 ^ n)) = ((held + v * 2 ^ n : Nat) : Int) := by
  have h1 : (2 : Nat) ^ n ≤ 2 ^ 7 := Nat.pow_le_pow_right (by decide) (by omega)
  have h2 : v * 2 ^ n ≤ v * 2 ^ 7 := Nat.mul_le_mul_left _ h1
  have e : IntKind.u64.wrap ((v : Int) * 2 ^ n) = ((v * 2 ^ n : Nat) : Int) := by
    rw [IntKind.wrap_u64, show ((v : Int) * 2 ^ n) = ((v * 2 ^ n : Nat) : Int) from by simp]
    omega
  rw [e, u64_or_nat _ _ (by omega) (by omega)]
  congr 1
  rw [Nat.or_comm, nat_join n (v * 2 ^ n) held (Nat.mul_mod_left _ _) hh]
  omega

/-- what a call of put does -/
def PutSays (v wd held n B g : Nat) (sv : Value) (bs : List UInt8) (W : World) : Prop :=
    Calls Try.prog 40 #[.pointer (some ⟨g, 0, none⟩), .int .u64 (v : Int), .int .i64 (wd : Int)] W fun e w' => e = .returned (.tuple #[]) ∧ Below B W w' ∧ ∃ sv' bs' held' n', Sink w' B g sv' bs' held' n' ∧ PutOk bs held n v wd bs' held' n'

theorem low32 (v : Nat) (hv : v < 18446744073709551616) : bits BinOp.and IntKind.u64 (v : Int) 4294967295 = ((v % 4294967296 : Nat) : Int) := by
  rw [show (4294967295 : Int) = ((2 ^ 32 - 1 : Nat) : Int) from rfl, u64_and_nat _ _ hv (by decide), Nat.and_two_pow_sub_one_eq_mod]

set_option maxHeartbeats 4000000 in
set_option maxRecDepth 100000 in
theorem put_gen (v0 wd0 held0 n0 B g : Nat) (sv0 : Value) (bs0 : List UInt8) (W0 : World) (hs0 : Sink W0 B g sv0 bs0 held0 n0) (hn0 : n0 < 8) (hh0 : held0 < 2 ^ n0) (hw0 : wd0 ≤ 64) (hv0 : v0 < 2 ^ wd0) (L : Nat) (hL : L ≤ 999950) (hlen0 : bs0.length ≤ L)
    (hrec : 32 < wd0 → ∀ (v held n : Nat) (sv : Value) (bs : List UInt8) (W : World), Sink W B g sv bs held n → n < 8 → held < 2 ^ n → v < 2 ^ 32 → bs.length ≤ L + 10 → PutSays v 32 held n B g sv bs W) :
    PutSays v0 wd0 held0 n0 B g sv0 bs0 W0 := by
  unfold PutSays
  have HR := Lib.hid hrec
  clear hrec
  have HV0 := Lib.hid hv0
  have HH0 := Lib.hid hh0
  obtain ⟨CT, hCT⟩ : ∃ CT, CT = leN bs0 + held0 * 256 ^ bs0.length + v0 * 2 ^ (8 * bs0.length + n0) := ⟨_, rfl⟩
  have HCT := Lib.hid hCT
  clear hv0 hh0 hCT
  go_enter Try.func40, Try.ntmps40
  go_wp2_with (fail)
  go_loopw [1, 2] (fun x y wr => ∃ v wd sv bs held n, x = .int .u64 ((v : Nat) : Int) ∧ y = .int .i64 ((wd : Nat) : Int) ∧ wd ≤ wd0 ∧ Hid (v < 2 ^ wd) ∧ Sink wr B g sv bs held n ∧ n < 8 ∧ Hid (held < 2 ^ n) ∧
      Hid (leN bs + held * 256 ^ bs.length + v * 2 ^ (8 * bs.length + n) = CT) ∧ 8 * bs.length + n + wd = 8 * bs0.length + n0 + wd0 ∧ Below B W0 wr) (fun _ y _ => (intOf y).toNat)
  case atStart => exact ⟨v0, wd0, sv0, bs0, held0, n0, rfl, rfl, Nat.le_refl _, HV0, hs0, hn0, HH0, HCT.out.symm, rfl, Below.refl _ _⟩
  case round =>
  clear hs0
  obtain ⟨v, wd, sv, bs, held, n, rfl, rfl, hwd, HV, hs, hn, HH, HC0, hTT, hb0⟩ := hrel
  by_cases hw : 32 < wd
  · have hwI : (32 : Int) < (wd : Int) := by omega
    have hv64 : v < 18446744073709551616 := Nat.lt_of_lt_of_le HV.out (Nat.pow_le_pow_right (n := 2) (by decide) (show wd ≤ 64 by omega))
    have hl32 := low32 v hv64
    obtain ⟨lo, hlo⟩ : ∃ lo, lo = v % 4294967296 := ⟨_, rfl⟩
    rw [← hlo] at hl32
    have hlo2 : lo < 2 ^ 32 := by rw [hlo]; exact Nat.mod_lt _ (by decide)
    have HL := Lib.hid hlo
    have HL2 := Lib.hid hlo2
    clear hlo hlo2
    go_wp2_with (fail)
    refine (HR.out (by omega) lo held n sv bs _ hs hn HH.out HL2.out (by omega) ).mono ?_
    rintro e w1 ⟨rfl, hb1, sv1, bs1, held1, n1, hs1, hn1, hh1, hN1, hT1⟩
    have HN1 := Lib.hid hN1
    have HH1 := Lib.hid hh1
    have hbz := hb0.trans hb1
    clear hN1 hh1 hs hb1 hb0
    go_wp2_with (fail)
    go_roundw
    case rel =>
      refine ⟨v / 4294967296, wd - 32, sv1, bs1, held1, n1, val_int (by omega), val_int (by omega), by omega, ?_, hs1, hn1, HH1, ?_, by omega, hbz⟩
      · show v / 4294967296 < 2 ^ (wd - 32)
        have := HV.out
        rw [show wd = 32 + (wd - 32) from by omega, Nat.pow_add] at this
        exact Nat.div_lt_of_lt_mul this
      · show _ = CT
        rw [HN1.out, ← HC0.out, HL.out, show 8 * bs1.length + n1 = 8 * bs.length + n + 32 from by omega, Nat.pow_add 2 (8 * bs.length + n) 32]
        have e : v = v % 4294967296 + 4294967296 * (v / 4294967296) := by omega
        have e2 : v % 4294967296 * 2 ^ (8 * bs.length + n) + v / 4294967296 * (2 ^ (8 * bs.length + n) * 2 ^ 32) = v * 2 ^ (8 * bs.length + n) := by
          rw [Nat.mul_comm (2 ^ (8 * bs.length + n)) (2 ^ 32), ← Nat.mul_assoc, ← Nat.add_mul]
          congr 1
          omega
        rw [Nat.add_assoc (leN bs + held * 256 ^ bs.length), e2]
    case measure => simp [intOf]; omega
  · have hv64 : True := trivial
    have hv32 : v < 4294967296 := Nat.lt_of_lt_of_le HV.out (Nat.pow_le_pow_right (n := 2) (by decide) (show wd ≤ 32 by omega))
    have hor := or_shift held n v hn HH.out hv32
    obtain ⟨X, hX⟩ : ∃ X, X = held + v * 2 ^ n := ⟨_, rfl⟩
    rw [← hX] at hor
    have HOR := Lib.hid hor
    have HX := Lib.hid hX
    clear hor hX
    have hwI : (wd : Int) ≤ 32 := by omega
    have c0 := hs.c0
    have c1 := hs.c1
    have c2 := hs.c2
    have f1 := hs.fr 1
    have hnI : (n : Int) < 8 := by omega
    have hlt := hs.lt
    have hlen : bs.length ≤ 1000000 := by omega
    go_wp2_with (fail)
    go_region
    rw [HOR.out]
    have hs1 := (hs.set1 X).drew
    have hb1 : Below B W0 (wr.setCell ⟨g, 1, none⟩ (.int .u64 (X : Int))).drew := (hb0.setCell (p := ⟨g, 1, none⟩) hs.hB _).drew
    generalize (wr.setCell ⟨g, 1, none⟩ (.int .u64 (X : Int))).drew = W1 at hs1 hb1 ⊢
    clear c0 c1 c2 f1
    have c0 := hs1.c0
    have c1 := hs1.c1
    have c2 := hs1.c2
    have f2 := hs1.fr 2
    go_wp2_with (fail)
    have e2 : (n : Int) + (wd : Int) = ((n + wd : Nat) : Int) := by omega
    have hs2 := hs1.set2 (n + wd)
    rw [← e2] at hs2
    have hb2 := hb1.setCell (p := ⟨g, 2, none⟩) hs1.hB (.int .i64 ((n : Int) + (wd : Int)))
    generalize W1.setCell ⟨g, 2, none⟩ (.int .i64 ((n : Int) + (wd : Int))) = W2 at hs2 hb2 ⊢
    have hT : X < 2 ^ (n + wd) := by
      have hh := HH.out
      rw [HX.out, Nat.pow_add, Nat.mul_comm (2 ^ n)]
      have : (v + 1) * 2 ^ n ≤ 2 ^ wd * 2 ^ n := Nat.mul_le_mul_right _ HV.out
      rw [Nat.succ_mul] at this
      omega
    have hN0 : leN bs + X * 256 ^ bs.length = leN bs + held * 256 ^ bs.length + v * 2 ^ (8 * bs.length + n) := by
      rw [HX.out, Nat.add_mul, show (256 : Nat) = 2 ^ 8 from rfl, ← Nat.pow_mul, Nat.mul_assoc, ← Nat.pow_add, Nat.add_comm n]
      omega
    clear c0 c1 c2 f2 e2
    obtain ⟨C, hC⟩ : ∃ C, C = leN bs + held * 256 ^ bs.length + v * 2 ^ (8 * bs.length + n) := ⟨_, rfl⟩
    rw [← hC] at hN0
    have HC := Lib.hid hC
    have HN := Lib.hid hN0
    have HT := Lib.hid hT
    clear hC hN0 hT
    go_loopw [37] (fun _ wr => ∃ sv' bs' held' n', Sink wr B g sv' bs' held' n' ∧ Hid (held' < 2 ^ n') ∧ n' ≤ 47 ∧ Hid (leN bs' + held' * 256 ^ bs'.length = C) ∧ 8 * bs'.length + n' = 8 * bs.length + n + wd ∧ Below B W0 wr) (fun _ wr => nOf wr g)
    case atStart => exact ⟨sv, bs, _, n + wd, by simpa using hs2, HT, by omega, HN, by omega, hb2⟩
    case round =>
      clear hs hs1 hb1 hs2 hb2 HT HN
      obtain ⟨sv', bs', held', n', hs, hh', hn47, hN, hT, hb⟩ := hrel
      have c0 := hs.c0
      have c1 := hs.c1
      have c2 := hs.c2
      have f0 := hs.fr 0
      have hnOld : wr.cell? ⟨g, 2, none⟩ = some (.int .i64 (n' : Int)) := c2
      by_cases h8 : 8 ≤ n'
      · have h8I : (8 : Int) ≤ (n' : Int) := by omega
        have hne := hs.ne
        have hlen' : bs'.length ≤ 2000000 := by omega
        have h63 : bs'.length + 1 ≤ maxLen := by unfold maxLen; omega
        have hsz : B ≤ wr.heap.size := Nat.le_of_lt (Nat.lt_of_le_of_lt hs.hB hs.lt)
        go_wp2_with (fail)
        have hglt := hs.lt
        go_region_law (refine step_app1s put.tBytes (by rfl) _ _ (by rfl) sv' (Value.int .u8 (IntKind.u8.wrap (held' : Int))) bs'.length (byteCells bs') (by rfl) ⟨wr.heap.size, 0, none⟩ (by rfl) (by simp) ((hs.own.alloc _).drew) (by rfl) (by omega) h63 ((hb.alloc hsz _).drew) (Nat.le_trans hsz (by simp)) ?_; intro gv capv w1 hown1 hgr1 hbel1 _ _; have hs3 := (hs.alloc (Obj.cells #[Value.int .u8 (IntKind.u8.wrap (held' : Int))] 5)).drew; have cz := hs3.gc hgr1; have fz := hs3.gf hgr1)
        all_goals
          have hb8 : IntKind.u8.wrap (held' : Int) = ((UInt8.ofNat (held' % 256)).toNat : Int) := by rw [IntKind.wrap_u8']; simp
          rw [byteCells_snoc bs' (UInt8.ofNat (held' % 256)) _ hb8] at hown1
          have hs4 := hs3.set0 hgr1 (bs' := bs' ++ [UInt8.ofNat (held' % 256)]) (by simpa using hown1)
          have hb4 := hbel1.setCell (p := ⟨g, 0, none⟩) hs.hB (.slice (some ⟨gv, 0, none⟩) (bs'.length + 1) capv)
          generalize w1.setCell ⟨g, 0, none⟩ (.slice (some ⟨gv, 0, none⟩) (bs'.length + 1) capv) = w2 at hs4 hb4 ⊢
          clear c0 c1 c2 f0 hown1 hgr1 hs3 cz fz hb8 hbel1 hs
          have c1 := hs4.c1
          have f1 := hs4.fr 1
          go_upto_region 9 with (fail)
          have e1 : (held' : Int) / 256 = ((held' / 256 : Nat) : Int) := by omega
          have hs5 := hs4.set1 (held' / 256)
          rw [← e1] at hs5
          have hb5 := hb4.setCell (p := ⟨g, 1, none⟩) hs4.hB (.int .u64 ((held' : Int) / 256))
          generalize w2.setCell ⟨g, 1, none⟩ (.int .u64 ((held' : Int) / 256)) = w3 at hs5 hb5 ⊢
          clear c1 f1 hs4 hb4 e1
          have c2 := hs5.c2
          have f2 := hs5.fr 2
          have e3 : (n' : Int) - 8 = ((n' - 8 : Nat) : Int) := by omega
          have hs6 := hs5.set2 (n' - 8)
          rw [← e3] at hs6
          have hb6 := hb5.setCell (p := ⟨g, 2, none⟩) hs5.hB (.int .i64 ((n' : Int) - 8))
          have hno : nOf (w3.setCell ⟨g, 2, none⟩ (.int .i64 ((n' : Int) - 8))) g = n' - 8 := by rw [nOf, hs6.c2]; simp [intOf]
          have HS6 := Lib.hid hs6
          have HB6 := Lib.hid hb6
          have HNO := Lib.hid hno
          clear hs6 hb6 hno e3
          go_wp2_with (fail)
          go_roundw
          case rel =>
            have hh2 : held' / 256 < 2 ^ (n' - 8) := by
              have := hh'.out
              rw [show n' = (n' - 8) + 8 from by omega, Nat.pow_add] at this
              exact Nat.div_lt_of_lt_mul (by rw [Nat.mul_comm]; exact this)
            refine ⟨_, bs' ++ [UInt8.ofNat (held' % 256)], held' / 256, n' - 8, by simpa using HS6.out, hh2, by omega, ?_, by simp; omega, HB6.out⟩
            show _ = _
            rw [← hN.out, leN_append, List.length_append, List.length_singleton, Nat.pow_succ, leN_cons, leN_nil]
            have e : (UInt8.ofNat (held' % 256)).toNat = held' % 256 := by simp
            rw [e, Nat.mul_zero, Nat.add_zero, Nat.add_assoc, Nat.mul_comm (256 ^ bs'.length) (held' % 256), Nat.mul_comm (256 ^ bs'.length) 256, ← Nat.mul_assoc, ← Nat.add_mul]
            congr 2
            omega
          case measure =>
            show nOf _ g < nOf _ g
            rw [HNO.out, nOf, hnOld]
            simp [intOf]; omega
      · have hend : n' < 8 := by omega
        go_wp2_with (fail)
        go_end0
        refine ⟨rfl, hb, sv', bs', held', n', hs, hend, hh'.out, ?_, by omega⟩
        rw [hN.out, HC.out, HC0.out, HCT.out]

theorem put32 (v held n B g : Nat) (sv : Value) (bs : List UInt8) (W : World) (hs : Sink W B g sv bs held n) (hn : n < 8) (hh : held < 2 ^ n) (hv : v < 2 ^ 32) (hlen : bs.length ≤ 999010) : PutSays v 32 held n B g sv bs W :=
  put_gen v 32 held n B g sv bs W hs hn hh (by decide) hv 999010 (by decide) hlen (fun h => absurd h (by decide))
theorem put_any (v wd held n B g : Nat) (sv : Value) (bs : List UInt8) (W : World) (hs : Sink W B g sv bs held n) (hn : n < 8) (hh : held < 2 ^ n) (hw : wd ≤ 64) (hv : v < 2 ^ wd) (hlen : bs.length ≤ 999000) : PutSays v wd held n B g sv bs W :=
  put_gen v wd held n B g sv bs W hs hn hh hw hv 999000 (by decide) hlen (fun _ v held n sv bs W hs hn hh hv hl => put32 v held n B g sv bs W hs hn hh hv hl)
end Go.Proofs.Ytnejhldagkennaa.bits
