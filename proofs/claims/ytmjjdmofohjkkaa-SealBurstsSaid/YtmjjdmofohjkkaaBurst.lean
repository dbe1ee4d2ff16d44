/-
  Burst: the walk.
-/
import Derived.Test.YtmjjdmofohjkkaaSumLaws
import Derived.Test.YtmjjdmofohjkkaaBytesRow
import Derived.Test.YtmjjdmofohjkkaaWithin
namespace Go.Proofs.Ytmjjdmofohjkkaa.burst
open Go.RowKit kit sum within
set_option linter.unusedVariables false

/-- the first i bytes of e laid over l from p on, bit by bit -/
def part (l : List UInt8) (p : Nat) (e : List UInt8) (i : Nat) : List UInt8 := l.mapIdx fun j b => if p ≤ j ∧ j < p + i then b ^^^ e.getD (j - p) 0 else b

theorem part_get (l : List UInt8) (p : Nat) (e : List UInt8) (i j : Nat) : (part l p e i)[j]? = (l[j]?).map fun b => if p ≤ j ∧ j < p + i then b ^^^ e.getD (j - p) 0 else b := by
  simp [part]
theorem part_len (l : List UInt8) (p : Nat) (e : List UInt8) (i : Nat) : (part l p e i).length = l.length := by simp [part]
theorem part_zero (l : List UInt8) (p : Nat) (e : List UInt8) : part l p e 0 = l := by
  apply List.ext_getElem?
  intro j
  rw [part_get]
  cases h : l[j]? with
  | none => rfl
  | some b => simp; omega
theorem part_set (l : List UInt8) (p : Nat) (e : List UInt8) (i : Nat) (c : UInt8) (hc : l[p + i]? = some c) : (part l p e i).set (p + i) (c ^^^ e.getD i 0) = part l p e (i + 1) := by
  apply List.ext_getElem?
  intro j
  rw [List.getElem?_set, part_get, part_get, part_len]
  by_cases h : p + i = j
  · subst h
    have hlt := (List.getElem?_eq_some_iff.1 hc).1
    have e0 : c = l[p + i] := by rw [List.getElem?_eq_getElem hlt] at hc; exact (Option.some.inj hc).symm
    simp [hlt, e0]
  · rw [if_neg h]
    congr 1
    funext b
    have e1 : (p ≤ j ∧ j < p + i) ↔ (p ≤ j ∧ j < p + (i + 1)) := by omega
    simp only [e1]
theorem part_five (l : List UInt8) (p : Nat) (e : List UInt8) (he : e.length = 5) (hp : p + 5 ≤ l.length) : part l p e 5 = l.take p ++ List.zipWith (· ^^^ ·) ((l.drop p).take 5) e ++ l.drop (p + 5) := by
  apply List.ext_getElem?
  intro j
  rw [part_get]
  have hz : (List.zipWith (· ^^^ ·) ((l.drop p).take 5) e).length = 5 := by simp [he]; omega
  have ht : (l.take p).length = p := by simp; omega
  rcases Nat.lt_or_ge j p with h | h
  · rw [List.append_assoc, List.getElem?_append_left (by omega), List.getElem?_take, if_pos h]
    cases l[j]? with
    | none => rfl
    | some b => simp; omega
  · rcases Nat.lt_or_ge j (p + 5) with h2 | h2
    · rw [List.append_assoc, List.getElem?_append_right (by omega), List.getElem?_append_left (by omega), ht, List.getElem?_zipWith, List.getElem?_take, if_pos (by omega), List.getElem?_drop]
      have e1 : p + (j - p) = j := by omega
      have e2 : l[j]? = some l[j] := List.getElem?_eq_getElem (by omega)
      have e3 : e[j - p]? = some e[j - p] := List.getElem?_eq_getElem (by omega)
      rw [e1, e2, e3]
      have e4 : e.getD (j - p) 0 = e[j - p] := by rw [List.getD_eq_getElem?_getD, e3]; rfl
      simp [h, h2]
      rw [e3]; rfl
    · rw [List.getElem?_append_right (by simp [hz]; omega), List.length_append, ht, hz, List.getElem?_drop]
      have e1 : p + 5 + (j - (p + 5)) = j := by omega
      rw [e1]
      cases l[j]? with
      | none => rfl
      | some b => simp; omega

/-- what Burst answers of a text of five bytes or more -/
def burstB (l : List UInt8) (k turn : Nat) : List UInt8 := part l (k / 8) (burstE (turn * 2 ^ (k % 8))) 5

theorem short_any (s : ByteArray) (at_ turn : Int) (h : s.size < 5) (W : World) :
    Calls Try.prog 64 #[.string s, .int .i64 at_, .int .u32 turn] W fun e w' => e = .returned (.string s) ∧ W = w' := by
  have h5 : (s.size : Int) < 5 := by omega
  go_enter Try.func64, Try.ntmps64
  go_wp2_with (fail)
  go_ret
  exact ⟨rfl, rfl⟩

set_option maxRecDepth 100000 in
theorem burst_any (s : ByteArray) (hs : s.size ≤ 140737488351232) (at_ : Int) (turn k : Nat) (ht : turn < 4294967296) (h : 5 ≤ s.size) (hk : withinF at_ (8 * ((s.size : Int) - 4)) = (k : Int)) (W : World) :
    Calls Try.prog 64 #[.string s, .int .i64 at_, .int .u32 turn] W fun e w' => e = .returned (.string ⟨(burstB s.data.toList k turn).toArray⟩) ∧ Below W.heap.size W w' := by
  have h5 : (5 : Int) ≤ (s.size : Int) := by omega
  have hkb := withinF_bd at_ (8 * ((s.size : Int) - 4)) (by omega)
  rw [hk] at hkb
  have HK := Lib.hid hk
  have hkb2 : (k : Int) < 8 * ((s.size : Int) - 4) := hkb.2
  clear hk hkb
  go_enter Try.func64, Try.ntmps64
  go_wp2_with (fail)
  refine (within_any at_ _ (by omega) (by omega) _).mono ?_
  rintro e w' ⟨rfl, rfl⟩
  rw [HK.out]
  go_wp2_with (with_reducible refine wpList_bytes rfl 9 106 5 (.tmp 21) rfl Try.underlying9 Try.underlying106 Try.underlying5 s rfl (Below.refl _ _) (Nat.le_refl _) ?_)
  intro g cap w1 hrow hb1 hg1 _ _ _
  go_wp2_with (fail)
  have hX40 : turn * 2 ^ (k % 8) < 18446744073709551616 := by
    have h1 : 2 ^ (k % 8) ≤ 2 ^ 7 := Nat.pow_le_pow_right (by decide) (by omega)
    have h2 : turn * 2 ^ (k % 8) ≤ turn * 2 ^ 7 := Nat.mul_le_mul_left _ h1
    omega
  have hXe : IntKind.u64.wrap ((turn : Int) * 2 ^ (k % 8)) = ((turn * 2 ^ (k % 8) : Nat) : Int) := by
    rw [IntKind.wrap_u64, show ((turn : Int) * 2 ^ (k % 8)) = ((turn * 2 ^ (k % 8) : Nat) : Int) from by simp]
    omega
  obtain ⟨X, hX⟩ : ∃ X, X = turn * 2 ^ (k % 8) := ⟨_, rfl⟩
  rw [← hX] at hX40 hXe
  rw [hXe]
  have HX := Lib.hid hX
  clear hX hXe
  obtain ⟨E, hE⟩ : ∃ E, E = burstE X := ⟨_, rfl⟩
  have HE := Lib.hid hE
  have hEi : ∀ i, i < 5 → (E.getD i 0).toNat = X / 2 ^ (8 * i) % 256 := by
    intro i hi
    rw [hE]
    match i, hi with
    | 0, _ => simp [burstE]
    | 1, _ => simp [burstE]
    | 2, _ => simp [burstE]
    | 3, _ => simp [burstE]
    | 4, _ => simp [burstE]
    | n + 5, h => omega
  have HEi := Lib.hid hEi
  clear hE hEi
  obtain ⟨l, hl⟩ : ∃ l, l = s.data.toList := ⟨_, rfl⟩
  have hll : l.length = s.size := by rw [hl]; exact (Lib.size_eq s).symm
  rw [← hl] at hrow
  have HL := Lib.hid hl
  have HLL := Lib.hid hll
  clear hl hll
  rw [← part_zero l (k / 8) E] at hrow
  go_loopw [10, 28] (fun _ y wr => ∃ i : Nat, i ≤ 5 ∧ y = .int .i64 i ∧ BRow wr g 5 (part l (k / 8) E i) ∧ Below W.heap.size W wr) (fun _ y _ => 5 - (intOf y).toNat)
  case atStart => exact ⟨0, by omega, rfl, hrow, hb1⟩
  case round =>
    clear hrow hb1
    obtain ⟨i, hi, rfl, hrow, hb⟩ := hrel
    by_cases hlt : i < 5
    · have hp : k / 8 + i < s.size := by omega
      have hpl : k / 8 + i < l.length := by rw [HLL.out]; exact hp
      obtain ⟨c, hc⟩ : ∃ c, l[k / 8 + i]? = some c := ⟨_, List.getElem?_eq_getElem hpl⟩
      clear hpl
      have hpc : (part l (k / 8) E i)[k / 8 + i]? = some c := by rw [part_get, hc]; simp
      have hcell := hrow.cell hpc
      have hfree := hrow.free (j := k / 8 + i) (by rw [part_len, HLL.out]; exact hp)
      have hset := hrow.set (j := k / 8 + i) (c ^^^ E.getD i 0)
      rw [part_set _ _ _ _ _ hc] at hset
      have hx : bits BinOp.xor IntKind.u8 (c.toNat : Int) ((X : Int) / 2 ^ (8 * i) % 256) = ((c ^^^ E.getD i 0).toNat : Int) := by
        have e1 : (X : Int) / 2 ^ (8 * i) % 256 = ((X / 2 ^ (8 * i) % 256 : Nat) : Int) := by simp
        rw [e1, u8_xor_nat _ _ c.toNat_lt (by omega), UInt8.toNat_xor, HEi.out i hlt]
      have hI : (k : Int) / 8 + (i : Int) < (s.size : Int) := by omega
      have hI0 : (0 : Int) ≤ (k : Int) / 8 + (i : Int) := by omega
      have hltI : (i : Int) < 5 := by omega
      have HS := Lib.hid hset
      have HXX := Lib.hid hx
      clear hset hx hc hpc hrow
      go_wp2_with (fail)
      go_region
      go_wp2_with (fail)
      go_roundw
      case rel => exact ⟨i + 1, by omega, by go_num, by rw [HXX.out]; exact HS.out, (hb.setCell (p := ⟨g, k / 8 + i, none⟩) hg1 _).drew⟩
      case measure => simp [intOf]; omega
    · obtain rfl : i = 5 := by omega
      have hs := hrow.back (cap := cap) (src := 106) (dst := 9) Try.underlying106 Try.underlying5 Try.underlying9 s.size (by rw [part_len, HLL.out])
      clear hrow
      go_wp2_with (fail)
      go_ret
      exact ⟨by rw [burstB, ← HX.out, ← HE.out, ← HL.out]; rfl, hb⟩
end Go.Proofs.Ytmjjdmofohjkkaa.burst
