/-
  inodes: the plain law: what is written is read as it was, and what is read is written as just that text. slices.Equal of places and SameInode at equals: the walks.
-/
import Derived.Test.YtdjnhbaipfkiaaaInodeRead
namespace Go.Proofs.Ytdjnhbaipfkiaaa.inode
open Go.RowKit kit Go.Proofs.Ytdjnhbaipfkiaaa.imap Go.Proofs.Ytdjnhbaipfkiaaa.fix
set_option linter.unusedVariables false

theorem foldl_shift : ∀ (l : List UInt8) (a : Nat), l.foldl (fun a b => a * 256 + b.toNat) a = a * 256 ^ l.length + unfixN l := by
  intro l
  induction l with
  | nil => intro a; simp [unfixN]
  | cons b l ih =>
    intro a
    have e : unfixN (b :: l) = l.foldl (fun a b => a * 256 + b.toNat) b.toNat := by simp [unfixN]
    rw [List.foldl_cons, ih, e, ih, List.length_cons, Nat.pow_succ, Nat.add_mul, Nat.mul_assoc, Nat.mul_comm 256, Nat.add_assoc]
theorem unfix_cons (b : UInt8) (l : List UInt8) : unfixN (b :: l) = b.toNat * 256 ^ l.length + unfixN l := by
  have e : unfixN (b :: l) = l.foldl (fun a b => a * 256 + b.toNat) b.toNat := by simp [unfixN]
  rw [e, foldl_shift]
theorem unfix_fix (n : Nat) : ∀ k, unfixN (fixB n k) = n % 256 ^ k := by
  intro k
  induction k with
  | zero => simp [fixB, unfixN, Nat.mod_one]
  | succ k ih =>
    have h : (UInt8.ofNat (n / 256 ^ k % 256)).toNat = n / 256 ^ k % 256 := by simp
    rw [fixB, unfix_cons, fixB_len, ih, h, Nat.pow_succ, Nat.mod_mul, Nat.mul_comm (256 ^ k), Nat.add_comm]
theorem fixB_add (b m : Nat) : ∀ k j, j ≤ k → fixB (b * 256 ^ k + m) j = fixB m j := by
  intro k j
  induction j with
  | zero => intro _; rfl
  | succ j ih =>
    intro hj
    have e : (b * 256 ^ k + m) / 256 ^ j % 256 = m / 256 ^ j % 256 := by
      obtain ⟨d, rfl⟩ : ∃ d, k = j + 1 + d := ⟨k - (j + 1), by omega⟩
      rw [show b * 256 ^ (j + 1 + d) = 256 ^ j * (256 * (b * 256 ^ d)) from by rw [Nat.pow_add, Nat.pow_succ]; simp only [Nat.mul_comm, Nat.mul_left_comm, Nat.mul_assoc]]
      rw [Nat.mul_add_div (Nat.pow_pos (by decide))]
      omega
    rw [fixB, fixB, e, ih (by omega)]
theorem fix_unfix : ∀ l : List UInt8, fixB (unfixN l) l.length = l := by
  intro l
  induction l with
  | nil => rfl
  | cons b l ih =>
    have hlt := unfixN_lt l
    have hb := b.toNat_lt
    have hp : 0 < 256 ^ l.length := Nat.pow_pos (by decide)
    have e : (b.toNat * 256 ^ l.length + unfixN l) / 256 ^ l.length = b.toNat := by
      rw [Nat.mul_comm, Nat.mul_add_div hp, Nat.div_eq_of_lt hlt, Nat.add_zero]
    rw [List.length_cons, unfix_cons, fixB, e, fixB_add _ _ _ _ (Nat.le_refl _), ih, Nat.mod_eq_of_lt hb]
    simp
theorem fix_one (n : Nat) (h : n < 256) : fixB n 1 = [UInt8.ofNat n] := by
  show [UInt8.ofNat (n / 256 ^ 0 % 256)] = _
  rw [Nat.pow_zero, Nat.div_one, Nat.mod_eq_of_lt h]
theorem fix_byte (b : UInt8) : fixB b.toNat 1 = [b] := by rw [fix_one _ b.toNat_lt]; simp
theorem partsB_pairs : ∀ (n : Nat) (l : List UInt8), l.length = 2 * n → partsB (pairs l) = l := by
  intro n
  induction n with
  | zero => intro l h; have : l = [] := List.eq_nil_of_length_eq_zero (by omega); subst this; rfl
  | succ n ih =>
    intro l h
    match l, h with
    | a :: b :: r, h =>
      rw [pairs, partsB, ih r (by simp at h; omega), partB]
      simp [fix_byte]
theorem pairs_partsB : ∀ (ps : List (Int × Int)), (∀ p ∈ ps, Okay p) → pairs (partsB ps) = ps := by
  intro ps
  induction ps with
  | nil => intro _; rfl
  | cons p ps ih =>
    intro h
    obtain ⟨h1, h2, h3, h4, _, _⟩ := h p (by simp)
    rw [partsB, partB, fix_one _ (by omega), fix_one _ (by omega)]
    show pairs (UInt8.ofNat p.1.toNat :: UInt8.ofNat p.2.toNat :: partsB ps) = _
    rw [pairs, ih (fun q hq => h q (by simp [hq]))]
    have e1 : ((UInt8.ofNat p.1.toNat).toNat : Int) = p.1 := by simp; omega
    have e2 : ((UInt8.ofNat p.2.toNat).toNat : Int) = p.2 := by simp; omega
    rw [e1, e2]
theorem partsB_len (ps : List (Int × Int)) : (partsB ps).length = 2 * ps.length := by
  induction ps with
  | nil => rfl
  | cons p ps ih => rw [partsB, List.length_append, ih, partB, List.length_append, fixB_len, fixB_len, List.length_cons]; omega

/-- what is written is read as it was -/
theorem read_write {k g z : Int} {ps : List (Int × Int)} (h : GoodI k g z ps) :
    (writeI k g z ps).length = 7 + 2 * ps.length ∧ (kR (writeI k g z ps) : Int) = k ∧ (gR (writeI k g z ps) : Int) = g ∧ (zR (writeI k g z ps) : Int) = z ∧ pR (writeI k g z ps) = ps := by
  obtain ⟨h1, h2, h3, h4, h5, h6, h7⟩ := h
  have e : writeI k g z ps = UInt8.ofNat k.toNat :: (fixB g.toNat 4 ++ (fixB z.toNat 2 ++ partsB ps)) := by
    unfold writeI headB
    rw [fix_one _ (by omega)]
    simp
  have l4 := fixB_len g.toNat 4
  have l2 := fixB_len z.toNat 2
  rw [e]
  refine ⟨by simp [l4, l2, partsB_len]; omega, ?_, ?_, ?_, ?_⟩
  · simp [kR]; omega
  · unfold gR
    rw [List.drop_one, List.tail_cons, List.take_left' l4, unfix_fix]
    have : (256 : Nat) ^ 4 = 4294967296 := by decide
    omega
  · unfold zR
    rw [show (UInt8.ofNat k.toNat :: (fixB g.toNat 4 ++ (fixB z.toNat 2 ++ partsB ps))).drop 5 = fixB z.toNat 2 ++ partsB ps from by rw [List.drop_succ_cons, List.drop_left' l4], List.take_left' l2, unfix_fix]
    have : (256 : Nat) ^ 2 = 65536 := by decide
    omega
  · unfold pR
    rw [show (UInt8.ofNat k.toNat :: (fixB g.toNat 4 ++ (fixB z.toNat 2 ++ partsB ps))).drop 7 = partsB ps from by
      rw [List.drop_succ_cons, show 6 = 4 + 2 from rfl, ← List.drop_drop, List.drop_left' l4, List.drop_left' l2]]
    exact pairs_partsB ps h7
/-- what is read is written as just that text -/
theorem write_read (l : List UInt8) (n : Nat) (h : l.length = 7 + 2 * n) : writeI (kR l) (gR l) (zR l) (pR l) = l := by
  match l, h with
  | [], h => exact absurd h (by simp; omega)
  | b :: r, h =>
    have hr : r.length = 6 + 2 * n := by simp at h; omega
    have e1 : r = r.take 4 ++ ((r.drop 4).take 2 ++ r.drop 6) := by
      conv => lhs; rw [← List.take_append_drop 4 r, ← List.take_append_drop 2 (r.drop 4)]
      rw [List.drop_drop]
    have l4 : (r.take 4).length = 4 := by simp; omega
    have l2 : ((r.drop 4).take 2).length = 2 := by simp; omega
    have g4 := fix_unfix (r.take 4)
    have z2 := fix_unfix ((r.drop 4).take 2)
    rw [l4] at g4
    rw [l2] at z2
    unfold writeI headB kR gR zR pR
    simp only [List.headD_cons, Int.toNat_natCast, List.drop_succ_cons, List.drop_zero]
    rw [fix_byte, g4, z2, partsB_pairs n (r.drop 6) (by simp; omega)]
    simp only [List.append_assoc, List.cons_append, List.nil_append]
    rw [← e1]

set_option maxRecDepth 100000 in
theorem equal_same (a b : Value) (ps : List (Int × Int)) (W : World) (ha : SliceAt W 2 a (ps.map rowP)) (hb : SliceAt W 2 b (ps.map rowP)) (hn : ps.length ≤ 1000000000000000) :
    Calls Try.prog 59 #[a, b] W fun e w' => e = .returned (.bool true) ∧ Below W.heap.size W w' := by
  obtain ⟨qa, ca, ba, oa, rfl, hqa, hca⟩ := ha.view
  obtain ⟨qb, cb, bb, ob, rfl, hqb, hcb⟩ := hb.view
  clear ha hb
  simp only [List.length_map] at hqa hqb ⊢
  have HA := Lib.hid hqa
  have HB := Lib.hid hqb
  have HCA : Hid (∀ i p, ps[i]? = some p → W.cell? ⟨ba, oa + i * 2, none⟩ = some (.int .i64 p.1) ∧ W.cell? ⟨ba, oa + i * 2 + 1, none⟩ = some (.int .i64 p.2)) := fun i p hx => by
    have h := hca i (rowP p) (by rw [List.getElem?_map, hx]; rfl)
    exact ⟨h 0 _ rfl, h 1 _ rfl⟩
  have HCB : Hid (∀ i p, ps[i]? = some p → W.cell? ⟨bb, ob + i * 2, none⟩ = some (.int .i64 p.1) ∧ W.cell? ⟨bb, ob + i * 2 + 1, none⟩ = some (.int .i64 p.2)) := fun i p hx => by
    have h := hcb i (rowP p) (by rw [List.getElem?_map, hx]; rfl)
    exact ⟨h 0 _ rfl, h 1 _ rfl⟩
  clear hqa hqb hca hcb
  go_enter Try.func59, Try.ntmps59
  go_wp2_with (fail)
  go_loopw [13] (fun y wr => ∃ k : Nat, k ≤ ps.length ∧ y = .int .i64 k ∧ Below W.heap.size W wr) (fun y _ => ps.length - (intOf y).toNat)
  case atStart => exact ⟨0, Nat.zero_le _, rfl, Below.refl _ _⟩
  case round =>
    obtain ⟨k, hk, rfl, hb⟩ := hrel
    by_cases hlt : k < ps.length
    · obtain ⟨rfl, hba⟩ := HA.out k hlt
      obtain ⟨rfl, hbb⟩ := HB.out k hlt
      obtain ⟨⟨c, n⟩, hp⟩ : ∃ p, ps[k]? = some p := ⟨_, List.getElem?_eq_getElem hlt⟩
      have e0 : ∀ x' : BW wr, x'.w.cell? ⟨ba, oa + k * 2, none⟩ = some (.int .i64 c) := fun x' => ((hb.trans (x'.h.mono hb.size)).cell (p := ⟨ba, oa + k * 2, none⟩) hba).trans (HCA.out k _ hp).1
      have e1 : ∀ x' : BW wr, x'.w.cell? ⟨ba, oa + k * 2 + 1, none⟩ = some (.int .i64 n) := fun x' => ((hb.trans (x'.h.mono hb.size)).cell (p := ⟨ba, oa + k * 2 + 1, none⟩) hba).trans (HCA.out k _ hp).2
      have e2 : ∀ x' : BW wr, x'.w.cell? ⟨bb, ob + k * 2, none⟩ = some (.int .i64 c) := fun x' => ((hb.trans (x'.h.mono hb.size)).cell (p := ⟨bb, ob + k * 2, none⟩) hbb).trans (HCB.out k _ hp).1
      have e3 : ∀ x' : BW wr, x'.w.cell? ⟨bb, ob + k * 2 + 1, none⟩ = some (.int .i64 n) := fun x' => ((hb.trans (x'.h.mono hb.size)).cell (p := ⟨bb, ob + k * 2 + 1, none⟩) hbb).trans (HCB.out k _ hp).2
      have hltI : (k : Int) < (ps.length : Int) := by omega
      clear hp
      go_wp2_with (fail)
      refine wp_region_below (by kernel_rfl) (by kernel_rfl) ?_
      repeat (go_big_quiet_step (fail))
      refine wpQuiet_nil ?_
      rintro _ ⟨wx, rfl⟩
      have hb5 := hb.trans (wx.h.mono hb.size)
      generalize wx.w = w5 at hb5 ⊢
      clear wx
      go_wp2_with (fail)
      exact ⟨⟨k + 1, by omega, rfl, hb5⟩, by show ps.length - (((k : Int) + 1).toNat) < ps.length - ((k : Int).toNat); omega⟩
    · go_wp2_with (fail)
      go_ret
      exact ⟨rfl, hb⟩

set_option maxRecDepth 100000 in
theorem same_same (k g z : Int) (a b : Value) (ps : List (Int × Int)) (W : World) (ha : SliceAt W 2 a (ps.map rowP)) (hb : SliceAt W 2 b (ps.map rowP)) (hn : ps.length ≤ 1000000000000000) :
    Calls Try.prog 30 #[.agg #[.int .i64 k, .int .i64 g, .int .i64 z, a], .agg #[.int .i64 k, .int .i64 g, .int .i64 z, b]] W fun e w' => e = .returned (.bool true) ∧ Below W.heap.size W w' := by
  have heq := fun w ha hb => equal_same a b ps w ha hb hn
  obtain ⟨qa, ca, ba, oa, rfl, _, _⟩ := ha.view
  obtain ⟨qb, cb, bb, ob, rfl, _, _⟩ := hb.view
  simp only [List.length_map] at ha hb heq ⊢
  go_enter Try.func30, Try.ntmps30
  go_wp2_with (fail)
  have hb0 := ((Below.refl W.heap.size W).alloc (Nat.le_refl _) (Obj.cells #[Value.int .i64 k, Value.int .i64 g, Value.int .i64 z, Value.slice qa ps.length ca] 58)).alloc (by simp) (Obj.cells #[Value.int .i64 k, Value.int .i64 g, Value.int .i64 z, Value.slice qb ps.length cb] 58)
  refine (heq _ (ha.below (Nat.le_refl _) hb0) (hb.below (Nat.le_refl _) hb0)).mono ?_
  rintro e w1 ⟨rfl, hb1⟩
  have hb2 := hb0.trans (hb1.mono (by simp; omega))
  go_wp2_with (fail)
  go_ret
  exact ⟨rfl, hb2⟩
end Go.Proofs.Ytdjnhbaipfkiaaa.inode
