/-
  bits.From: the closure that reads bits of a text, from a place on.
-/
import Derived.Test.YtjeocmkdekdlnaaPack
namespace Go.Proofs.Ytjeocmkdekdlnaa.bits
open Go.RowKit kit
set_option linter.unusedVariables false

/-- the reader: where it stands in a, its text in t -/
structure Reader (w : World) (a t : Nat) (at_ : Nat) (s : ByteArray) : Prop where
  ha : w.heap[a]? = some (.cells #[.int .i64 (at_ : Int)] 3 (0, 0))
  ht : w.heap[t]? = some (.cells #[.string s] 9 (0, 0))

/-- the number that the w bits from a place on are, the first the lowest -/
def nextV (s : ByteArray) (at0 w : Nat) : Nat := leN s.data.toList / 2 ^ at0 % 2 ^ w

theorem Reader.ne {w : World} {a t n : Nat} {s : ByteArray} (h : Reader w a t n s) : t ≠ a := by
  intro e
  have := h.ha
  rw [← e, h.ht] at this
  simp at this
theorem Reader.set {w : World} {a t n : Nat} {s : ByteArray} (h : Reader w a t n s) (m : Nat) : Reader (w.setCell ⟨a, 0, none⟩ (.int .i64 (m : Int))) a t m s :=
  ⟨by rw [heap_setCell_same _ _ _ _ _ _ h.ha]; rfl, by rw [heap_setCell_other _ _ _ _ h.ne]; exact h.ht⟩
theorem Reader.drew {w : World} {a t n : Nat} {s : ByteArray} (h : Reader w a t n s) : Reader w.drew a t n s := ⟨h.ha, h.ht⟩

theorem piece_and (b : UInt8) (r tk : Nat) (h : tk ≤ 8) :
    bits BinOp.and IntKind.u64 (IntKind.u64.wrap ((b.toNat : Int) / 2 ^ r)) (IntKind.u64.wrap (IntKind.u64.wrap (2 ^ tk) - 1)) = ((b.toNat / 2 ^ r % 2 ^ tk : Nat) : Int) := by
  have hb := b.toNat_lt
  have h1 : (2 : Nat) ^ tk ≤ 2 ^ 8 := Nat.pow_le_pow_right (by decide) h
  have h2 : 0 < (2 : Nat) ^ tk := Nat.two_pow_pos _
  have h3 : b.toNat / 2 ^ r ≤ b.toNat := Nat.div_le_self _ _
  have e1 : IntKind.u64.wrap ((b.toNat : Int) / 2 ^ r) = ((b.toNat / 2 ^ r : Nat) : Int) := by
    rw [IntKind.wrap_u64, show ((b.toNat : Int) / 2 ^ r) = ((b.toNat / 2 ^ r : Nat) : Int) from by simp]
    generalize b.toNat / 2 ^ r = z at h3 ⊢
    omega
  have e2 : IntKind.u64.wrap (2 ^ tk) = ((2 ^ tk : Nat) : Int) := by
    rw [IntKind.wrap_u64, show ((2 : Int) ^ tk) = ((2 ^ tk : Nat) : Int) from by simp]; omega
  have e3 : IntKind.u64.wrap (((2 ^ tk : Nat) : Int) - 1) = ((2 ^ tk - 1 : Nat) : Int) := by
    rw [IntKind.wrap_u64]; omega
  rw [e1, e2, e3, u64_and_nat _ _ (by omega) (by omega), Nat.and_two_pow_sub_one_eq_mod]
theorem piece_or (V P h tk : Nat) (hV : V < 2 ^ h) (hP : P < 2 ^ tk) (hh : h + tk ≤ 64) :
    bits BinOp.or IntKind.u64 (V : Int) (IntKind.u64.wrap ((P : Int) * 2 ^ h)) = ((V + P * 2 ^ h : Nat) : Int) := by
  have h1 : (P + 1) * 2 ^ h ≤ 2 ^ tk * 2 ^ h := Nat.mul_le_mul_right _ hP
  rw [← Nat.pow_add, Nat.add_mul, Nat.one_mul] at h1
  have h2 : (2 : Nat) ^ (tk + h) ≤ 2 ^ 64 := Nat.pow_le_pow_right (by decide) (by omega)
  have h3 : 0 < (2 : Nat) ^ h := Nat.two_pow_pos _
  have e : IntKind.u64.wrap ((P : Int) * 2 ^ h) = ((P * 2 ^ h : Nat) : Int) := by
    rw [IntKind.wrap_u64, show ((P : Int) * 2 ^ h) = ((P * 2 ^ h : Nat) : Int) from by simp]
    omega
  rw [e, u64_or_nat _ _ (by omega) (by omega)]
  congr 1
  rw [Nat.or_comm, nat_join h (P * 2 ^ h) V (Nat.mul_mod_left _ _) hV]
  omega
/-- the bits of a byte in the number that all bytes are -/
theorem leN_byte (l : List UInt8) (q r tk : Nat) (b : UInt8) (hb : l[q]? = some b) (h : tk + r ≤ 8) : leN l / 2 ^ (8 * q + r) % 2 ^ tk = b.toNat / 2 ^ r % 2 ^ tk := by
  induction l generalizing q with
  | nil => simp at hb
  | cons x l ih =>
    cases q with
    | zero =>
      simp at hb
      subst hb
      rw [leN_cons, Nat.mul_zero, Nat.zero_add, show 256 = 2 ^ r * (2 ^ tk * 2 ^ (8 - (tk + r))) from by rw [← Nat.pow_add, ← Nat.pow_add, show r + (tk + (8 - (tk + r))) = 8 from by omega]]
      rw [Nat.mul_assoc, Nat.add_mul_div_left _ _ (Nat.two_pow_pos _), Nat.mul_assoc, Nat.add_mul_mod_self_left]
    | succ q =>
      have hx := x.toNat_lt
      rw [leN_cons, show 8 * (q + 1) + r = 8 + (8 * q + r) from by omega, Nat.pow_add, ← Nat.div_div_eq_div_mul, show (x.toNat + 256 * leN l) / 2 ^ 8 = leN l from by omega]
      exact ih q (by simpa using hb)
theorem nextV_more (s : ByteArray) (at0 h tk q r : Nat) (hq : q < s.size) (he : at0 + h = 8 * q + r) (ht : tk + r ≤ 8) : nextV s at0 (h + tk) = nextV s at0 h + s[q].toNat / 2 ^ r % 2 ^ tk * 2 ^ h := by
  have e := leN_byte s.data.toList q r tk s[q] (by rw [Lib.size_eq] at hq; simp [ByteArray.getElem_eq_getElem_data, List.getElem?_eq_getElem hq]) ht
  unfold nextV
  rw [← e, ← he, Nat.pow_add, Nat.pow_add, Nat.mod_mul, ← Nat.div_div_eq_div_mul, Nat.mul_comm]

attribute [local go_sem] kit.ite_min kit.ite_max
set_option maxRecDepth 100000 in
theorem next_any (w at0 a t : Nat) (s : ByteArray) (W : World) (hr : Reader W a t at0 s) (hw : w ≤ 64) (hle : at0 + w ≤ 8 * s.size) (hs : s.size ≤ 1000000000000000) :
    Calls Try.prog 46 #[.int .i64 (w : Int), .pointer (some ⟨a, 0, none⟩), .pointer (some ⟨t, 0, none⟩)] W fun e w' => e = .returned (.int .u64 ((nextV s at0 w : Nat) : Int)) ∧ Reader w' a t (at0 + w) s ∧ W.grownBy w' (some a) := by
  go_enter Try.func46, Try.ntmps46
  go_wp2_with (fail)
  have hlt0 : t < W.heap.size := (Array.getElem?_eq_some_iff.1 hr.ht).1
  have hne : some t ≠ some a := by
    intro e
    have := hr.ha
    rw [← Option.some.inj e, hr.ht] at this
    simp at this
  go_loopw [5, 6] (fun v x wr => ∃ h : Nat, h ≤ w ∧ x = .int .i64 (h : Int) ∧ v = .int .u64 ((nextV s at0 h : Nat) : Int) ∧ Reader wr a t (at0 + h) s ∧ W.grownBy wr (some a)) (fun _ x _ => w - (intOf x).toNat)
  case atStart => exact ⟨0, Nat.zero_le _, rfl, by simp [nextV, Nat.mod_one], hr, grown_refl _ _⟩
  case round =>
    obtain ⟨h, hh, rfl, rfl, hr1, hgr⟩ := hrel
    by_cases hlt : h < w
    · obtain ⟨q, r, hqr, hr8⟩ : ∃ q r, at0 + h = 8 * q + r ∧ r < 8 := ⟨(at0 + h) / 8, (at0 + h) % 8, by omega, by omega⟩
      obtain ⟨at1, hat⟩ : ∃ at1, at1 = at0 + h := ⟨_, rfl⟩
      rw [← hat] at hr1 hqr
      have e1 : (at1 : Int) % 8 = (r : Int) := by omega
      have e2 : (at1 : Int) / 8 = (q : Int) := by omega
      have hq : q < s.size := by omega
      have hqI : (q : Int) < (s.size : Int) := by omega
      have hltI : (h : Int) < (w : Int) := by omega
      have c1 := cell_of_one hr1.ha
      have c2 := cell_of_one hr1.ht
      have f1 := free_of_one hr1.ha
      obtain ⟨V, hV⟩ : ∃ V, V = nextV s at0 h := ⟨_, rfl⟩
      rw [← hV]
      have HV := Lib.hid hV
      have HQ := Lib.hid hqr
      have HA := Lib.hid hat
      clear hV hqr hat
      obtain ⟨tk, htk⟩ : ∃ tk : Nat, min (8 - (r : Int)) ((w : Int) - (h : Int)) = (tk : Int) := ⟨(min (8 - (r : Int)) ((w : Int) - (h : Int))).toNat, by omega⟩
      have ht1 : 1 ≤ tk := by omega
      have ht2 : tk + r ≤ 8 := by omega
      have ht3 : h + tk ≤ w := by omega
      have htI : (tk : Int) < 64 := by omega
      have htI0 : (0 : Int) ≤ (tk : Int) := by omega
      go_wp2_with (fail)
      clear htk
      go_region
      rw [piece_and _ _ _ (by omega)]
      have hP : s[q].toNat / 2 ^ r % 2 ^ tk < 2 ^ tk := Nat.mod_lt _ (Nat.two_pow_pos _)
      have hN := nextV_more s at0 h tk q r hq (by rw [← HA.out, HQ.out]) ht2
      have hV : V < 2 ^ h := by rw [HV.out]; exact Nat.mod_lt _ (Nat.two_pow_pos _)
      generalize s[q].toNat / 2 ^ r % 2 ^ tk = P at hP hN ⊢
      rw [← HV.out] at hN
      have hor := piece_or V P h tk hV hP (by omega)
      have HN := Lib.hid hN
      obtain ⟨V', hV'⟩ : ∃ V', V' = V + P * 2 ^ h := ⟨_, rfl⟩
      rw [← hV'] at hor
      have HV' := Lib.hid hV'
      have hr2 := hr1.drew
      have c1 := cell_of_one hr2.ha
      have c2 := cell_of_one hr2.ht
      have f1 := free_of_one hr2.ha
      have hgr2 := grown_drew hgr
      generalize wr.drew = w2 at hr2 c1 c2 f1 hgr2 ⊢
      clear hN hV' hV hP
      have hgo := grown_set hgr2 0 (.int .i64 ((at1 + tk : Nat) : Int))
      have hrd := hr2.set (at1 + tk)
      rw [HA.out, Nat.add_assoc] at hrd hgo
      go_wp2_with (fail)
      refine ⟨⟨h + tk, ht3, by simp, by rw [HN.out, HV'.out], ?_, ?_⟩, by show w - ((h : Int) + (tk : Int)).toNat < w - ((h : Int)).toNat; omega⟩
      · have e : (at1 : Int) + (tk : Int) = ((at0 + (h + tk) : Nat) : Int) := by rw [HA.out]; omega
        rw [e]; exact hrd
      · have e : (at1 : Int) + (tk : Int) = ((at0 + (h + tk) : Nat) : Int) := by rw [HA.out]; omega
        rw [e]; exact hgo
    · obtain rfl : h = w := by omega
      go_wp2_with (fail)
      go_ret
      exact ⟨rfl, hr1, hgr⟩
end Go.Proofs.Ytjeocmkdekdlnaa.bits
