/-
  package sum: the step back, Force: the walks.
-/
import Derived.Test.YtjeocmkdekdlnaaSumLaws
import Derived.Test.YtjeocmkdekdlnaaPut
namespace Go.Proofs.Ytjeocmkdekdlnaa.sum
open Go.RowKit kit
set_option linter.unusedVariables false

theorem top_bit (c : BitVec 32) : ((c.toNat : Int) / 2147483648 == 1) = c.getLsbD 31 := by
  rw [BitVec.getLsbD, Nat.testBit_eq_decide_div_mod_eq, Bool.eq_iff_iff, beq_iff_eq, decide_eq_true_iff]
  have := c.isLt
  omega

theorem back_any (c : BitVec 32) (W : World) :
    Calls Try.prog 37 #[.int .u32 (c.toNat : Int)] W fun e w' => e = .returned (.int .u32 ((backB c).toNat : Int)) ∧ W = w' := by
  have ht := top_bit c
  cases hb : c.getLsbD 31
  · have HB := Lib.hid hb
    rw [hb] at ht
    clear hb
    go_enter Try.func37, Try.ntmps37
    go_wp2_with (fail)
    go_ret
    exact ⟨ret_int (by rw [backB, if_neg (by rw [HB.out]; simp), BitVec.toNat_shiftLeft, Nat.shiftLeft_eq]; omega), rfl⟩
  · have HB := Lib.hid hb
    rw [hb] at ht
    clear hb
    go_enter Try.func37, Try.ntmps37
    go_wp2_with (fail)
    go_ret
    refine ⟨ret_int ?_, rfl⟩
    rw [backB, if_pos HB.out, show (2197175160 : Int) = ((2197175160#32).toNat : Int) from rfl, xor32]
    generalize c ^^^ 2197175160#32 = d
    rw [show ((d.toNat : Int) * 2 % 4294967296) = ((d.toNat * 2 % 4294967296 : Nat) : Int) from by omega, show (1 : Int) = ((1 : Nat) : Int) from rfl, u32_or_nat _ _ (by omega) (by decide)]
    rw [BitVec.toNat_or, BitVec.toNat_shiftLeft, Nat.shiftLeft_eq]
    rfl

theorem force_any (a want : BitVec 32) (W : World) :
    Calls Try.prog 29 #[.int .u32 (a.toNat : Int), .int .u32 (want.toNat : Int)] W fun e w' => e = .returned (.string ⟨(forceB a want).toArray⟩) ∧ Below W.heap.size W w' := by
  obtain ⟨a', ha'⟩ : ∃ a', a' = ~~~ a := ⟨_, rfl⟩
  obtain ⟨v, hv⟩ : ∃ v, v = ~~~ want := ⟨_, rfl⟩
  have hna := not32 a
  have hnw := not32 want
  rw [← ha'] at hna
  rw [← hv] at hnw
  have HA := Lib.hid hna
  have HW := Lib.hid hnw
  have HA2 := Lib.hid ha'
  have HV2 := Lib.hid hv
  clear hna hnw ha' hv
  go_enter Try.func29, Try.ntmps29
  go_wp2_with (fail)
  rw [HW.out]
  go_loop [5, 8] (fun x y => ∃ k : Nat, k ≤ 32 ∧ x = .int .u32 ((backs k v).toNat : Int) ∧ y = .int .i64 k) (fun _ y => 32 - (intOf y).toNat)
  case atStart => exact ⟨0, by omega, rfl, rfl⟩
  case round =>
    obtain ⟨j, hj, rfl, rfl⟩ := hrel
    obtain ⟨g, hg⟩ : ∃ g, g = backs j v := ⟨_, rfl⟩
    have HG := Lib.hid hg
    rw [← hg]
    clear hg
    by_cases hj8 : j < 32
    · go_wp2_with (go_at_call 37; refine (back_any g _).mono ?_; rintro e w' ⟨rfl, rfl⟩)
      go_round
      case rel => exact ⟨j + 1, by omega, by rw [backs, ← HG.out], by go_num⟩
      case measure => simp [intOf]; omega
    · obtain rfl : j = 32 := by omega
      obtain ⟨q, hq⟩ : ∃ q, q = g ^^^ a' := ⟨_, rfl⟩
      have hx := xor32 g a'
      rw [← hq] at hx
      have hql := q.isLt
      have HX := HA.out
      have HQ := Lib.hid hq
      clear hq
      have hconv : ((convert 34 9 (Value.slice (some { block := W.heap.size, off := 0 }) 4 4)).run Try.prog
          (W.alloc (.cells #[Value.int .u8 ((q.toNat : Int) % 256), Value.int .u8 ((q.toNat : Int) / 256 % 256), Value.int .u8 ((q.toNat : Int) / 65536 % 256), Value.int .u8 ((q.toNat : Int) / 16777216)] 5))) =
          .ok (.string ⟨(bytes4 q).toArray⟩) (W.alloc (.cells #[Value.int .u8 ((q.toNat : Int) % 256), Value.int .u8 ((q.toNat : Int) / 256 % 256), Value.int .u8 ((q.toNat : Int) / 65536 % 256), Value.int .u8 ((q.toNat : Int) / 16777216)] 5)) := by
        refine run_convert_bytes_back _ 34 9 5 ⟨W.heap.size, 0, none⟩ 4 (bytes4 q) Try.underlying34 Try.underlying5 Try.underlying9 ?_
        intro j hj
        have hadd : (⟨W.heap.size, 0, none⟩ : Addr).add j = ⟨W.heap.size, j, none⟩ := by unfold Addr.add; split <;> simp_all
        rw [hadd, cell_of_row _ _ _ _ _ _ (heap_alloc_new _ _)]
        match j, hj with
        | 0, _ => simp [bytes4]
        | 1, _ => simp [bytes4]
        | 2, _ => simp [bytes4]
        | 3, _ => simp [bytes4]; omega
        | n + 4, h => simp [bytes4] at h; omega
      go_wp2_with (fail)
      go_ret
      refine ⟨?_, (Below.refl _ _).alloc (Nat.le_refl _) _⟩
      rw [forceB, ← HV2.out, ← HA2.out, ← HG.out, ← HQ.out]; rfl

theorem forceB_len (a w : BitVec 32) : (forceB a w).length = 4 := rfl
theorem force_as (a want : BitVec 32) (l : List UInt8) (h : l = forceB a want) (W : World) :
    Calls Try.prog 29 #[.int .u32 (a.toNat : Int), .int .u32 (want.toNat : Int)] W fun e w' => e = .returned (.string ⟨l.toArray⟩) ∧ Below W.heap.size W w' := by
  rw [h]; exact force_any a want W
end Go.Proofs.Ytjeocmkdekdlnaa.sum
