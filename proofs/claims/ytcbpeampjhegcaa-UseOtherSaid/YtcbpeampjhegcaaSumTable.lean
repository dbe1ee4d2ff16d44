/-
  package sum: the table, and More by the table.
-/
import Derived.Test.YtcbpeampjhegcaaSumStep
import Derived.Test.YtcbpeampjhegcaaRow
namespace Go.Proofs.Ytcbpeampjhegcaa.sum
open Go.RowKit kit

def tabAt (k i : Nat) : Value := if i < k then .int .u32 ((steps 8 (BitVec.ofNat 32 i)).toNat : Int) else .int .u32 0
def tabV (k : Nat) : Array Value := Array.ofFn (n := 256) fun i => tabAt k i.val
theorem tabV_size (k : Nat) : (tabV k).size = 256 := by simp [tabV]
theorem tabV_at (k i : Nat) (h : i < 256) : (tabV k)[i]? = some (tabAt k i) := by simp [tabV, h]
theorem one_tabAt (k i : Nat) : (tabAt k i).oneCell' = true := by
  unfold tabAt
  by_cases h : i < k
  · rw [if_pos h]; simp only [Value.oneCell']
  · rw [if_neg h]; simp only [Value.oneCell']
theorem tabV_one (k : Nat) : ∀ v ∈ (tabV k).toList, v.oneCell' = true := by
  intro v hv
  obtain ⟨i, hi⟩ := List.mem_iff_getElem?.1 hv
  have h2 : (tabV k)[i]? = some v := by simpa using hi
  have h3 : i < 256 := by
    rcases Nat.lt_or_ge i 256 with h | h
    · exact h
    · rw [Array.getElem?_eq_none (by rw [tabV_size]; exact h)] at h2; cases h2
  rw [tabV_at k i h3] at h2
  rw [← Option.some.inj h2]
  exact one_tabAt k i
theorem tabV_set (k : Nat) : (tabV k).setIfInBounds k (.int .u32 ((steps 8 (BitVec.ofNat 32 k)).toNat : Int)) = tabV (k + 1) := by
  apply Array.ext_getElem?
  intro i
  rw [Array.getElem?_setIfInBounds]
  by_cases hi : i < 256
  · rw [tabV_at _ _ hi, tabV_at _ _ hi]
    by_cases h : k = i
    · subst h; simp [tabAt, tabV_size, hi]
    · have e : (i < k) ↔ (i < k + 1) := by omega
      simp [h, tabAt, e]
  · have e1 : (tabV k)[i]? = none := Array.getElem?_eq_none (by rw [tabV_size]; omega)
    have e2 : (tabV (k + 1))[i]? = none := Array.getElem?_eq_none (by rw [tabV_size]; omega)
    rw [e1, e2]
    by_cases h : k = i
    · subst h; simp [tabV_size, hi]
    · simp [h]
theorem zero70 : (Try.prog.info? 96).map (·.zero) = some (some (.agg (tabV 0))) := by kernel_rfl
theorem size70 : (Try.prog.info? 96).map (·.size) = some 256 := by kernel_rfl

set_option maxRecDepth 100000 in
theorem table_any (W : World) :
    Calls Try.prog 57 #[] W fun e w' => e = .returned (.agg (tabV 256)) ∧ Below W.heap.size W w' := by
  have hu70 := Try.underlying96
  go_enter Try.func57, Try.ntmps57
  go_wp2_with (with_reducible refine kit.wpList_alloc rfl 96 rfl (.agg (tabV 0)) zero70 ?_)
  have hb0 : Below W.heap.size W (W.alloc (.cells (tabV 0) 96)) := (Below.refl _ _).alloc (Nat.le_refl _) _
  have hg0 := heap_alloc_new W (.cells (tabV 0) 96)
  go_loopw [1, 2, 3, 8] (fun _ _ x _ wr => ∃ k : Nat, k ≤ 256 ∧ x = .int .i64 k ∧ wr.heap[W.heap.size]? = some (.cells (tabV k) 96 (0, 0)) ∧ Below W.heap.size W wr) (fun _ _ x _ _ => 256 - (intOf x).toNat)
  case atStart => exact ⟨0, by omega, rfl, hg0, hb0⟩
  case round =>
    clear hb0 hg0
    obtain ⟨k, hk, rfl, hg, hb⟩ := hrel
    by_cases hlt : k < 256
    · obtain ⟨c, hc⟩ : ∃ c, c = BitVec.ofNat 32 k := ⟨_, rfl⟩
      have hck : c.toNat = k := by rw [hc, BitVec.toNat_ofNat]; omega
      have HK : Hid ((k : Int) = (c.toNat : Int)) := congrArg Int.ofNat hck.symm
      have HC := Lib.hid hc
      have HG := Lib.hid hg
      have hcell : wr.cell? ⟨W.heap.size, k, none⟩ = some (tabAt k k) := by rw [cell_of_row _ _ _ _ _ _ hg, tabV_at _ _ hlt]
      have hfro := frozen_of_row _ _ k _ _ hg
      have hltI : (k : Int) < 256 := by omega
      clear hck hc hg
      go_wp2_with (fail)
      go_loop [2, 8] (fun x y => ∃ j : Nat, j ≤ 8 ∧ x = .int .u32 ((steps j c).toNat : Int) ∧ y = .int .i64 j) (fun _ y => 8 - (intOf y).toNat)
      case atStart => exact ⟨0, by omega, val_int HK.out, rfl⟩
      case round =>
        obtain ⟨j, hj, rfl, rfl⟩ := hrel
        obtain ⟨g, hg⟩ : ∃ g, g = steps j c := ⟨_, rfl⟩
        have HJ := Lib.hid hg
        rw [← hg]
        clear hg
        by_cases hj8 : j < 8
        · go_wp2_with (go_at_call 58; refine (step_any g _).mono ?_; rintro e w' ⟨rfl, rfl⟩)
          go_round
          case rel => exact ⟨j + 1, by omega, by rw [steps, ← HJ.out], by go_num⟩
          case measure => simp [intOf]; omega
        · obtain rfl : j = 8 := by omega
          go_wp2_with (fail)
          go_roundw
          case rel =>
            refine ⟨k + 1, by omega, by go_num, ?_, hb.setCell (p := ⟨W.heap.size, k, none⟩) (Nat.le_refl _) _⟩
            rw [heap_setCell_same _ _ _ _ _ _ HG.out, HJ.out, HC.out, tabV_set]
          case measure => simp [intOf]; omega
    · obtain rfl : k = 256 := by omega
      go_wp2_with (first
        | (with_reducible refine wpList_load_row rfl 96 _ rfl W.heap.size rfl _ (tabV 256) _ _ hg hu70 rfl (by rw [tabV_size]; exact size70) ?_)
        | (with_reducible show wpList _ _ _ ({ dst := none, op := Op.store 96 (.tmp 0) (.tmp 17), type := _, pos := _, after := _, guard := none } :: _) _ _; (refine kit.wpList_store_row rfl 96 _ _ rfl W.heap.size rfl _ _ (tabV 256) hg rfl rfl (by rw [tabV_size]; exact size70) (tabV_one 256) ?_)))
      refine bodyPost_ret_by (v := .agg (tabV 256)) (results_cell_row (ty := 96) rfl _ _ W.heap.size _ (tabV 256) _ _ rfl (setRow_heap _ _ _ _ _ _ hg) hu70 rfl (by rw [tabV_size]; exact size70)) rfl ⟨rfl, below_setRow hb (Nat.le_refl _) _⟩

/-! ### The table's entries, and what a step makes of a sum of bits -/
theorem stepB_xor (a b : BitVec 32) : stepB (a ^^^ b) = stepB a ^^^ stepB b := by
  unfold stepB
  rw [BitVec.getLsbD_xor, BitVec.ushiftRight_xor_distrib]
  cases a.getLsbD 0 <;> cases b.getLsbD 0 <;> simp
  · rw [BitVec.xor_assoc]
  · rw [BitVec.xor_assoc, BitVec.xor_comm (b >>> 1), ← BitVec.xor_assoc]
  · rw [BitVec.xor_assoc (a >>> 1), BitVec.xor_comm (b >>> 1), ← BitVec.xor_assoc _ _ (b >>> 1), BitVec.xor_self, BitVec.zero_xor]
theorem steps_xor (k : Nat) (a b : BitVec 32) : steps k (a ^^^ b) = steps k a ^^^ steps k b := by
  induction k with
  | zero => rfl
  | succ k ih => rw [steps, steps, steps, ih, stepB_xor]
theorem steps_shift (x : BitVec 32) : ∀ k, (∀ i, i < k → x.getLsbD i = false) → steps k x = x >>> k := by
  intro k
  induction k with
  | zero => intro _; simp [steps]
  | succ k ih =>
    intro h
    rw [steps, ih (fun i hi => h i (by omega)), stepB, if_neg (by simp [h k (by omega)]), BitVec.shiftRight_add]

theorem fast_step (c : BitVec 32) (b : UInt8) : byteStep c b = (c >>> 8) ^^^ steps 8 (BitVec.ofNat 32 ((c.toNat % 256) ^^^ b.toNat)) := by
  have e : c ^^^ BitVec.ofNat 32 b.toNat = ((c >>> 8) <<< 8) ^^^ BitVec.ofNat 32 ((c.toNat % 256) ^^^ b.toNat) := by
    have hb := b.toNat_lt
    apply BitVec.eq_of_getLsbD_eq
    intro i hi
    have h8 : ∀ j, 8 ≤ j → b.toNat.testBit j = false := fun j hj => Nat.testBit_lt_two_pow (Nat.lt_of_lt_of_le hb (Nat.pow_le_pow_right (by decide) hj))
    simp only [BitVec.getLsbD_xor, BitVec.getLsbD_shiftLeft, BitVec.getLsbD_ushiftRight, BitVec.getLsbD_ofNat, hi, decide_true, Bool.true_and, Nat.testBit_xor]
    rw [show (256 : Nat) = 2 ^ 8 from rfl, Nat.testBit_mod_two_pow]
    by_cases h : i < 8
    · simp [h, BitVec.getLsbD]
    · have e2 : 8 + (i - 8) = i := by omega
      simp [h, e2, h8 i (by omega)]
  rw [byteStep, e, steps_xor, steps_shift _ 8 (fun i hi => by simp [hi])]
  congr 1
  apply BitVec.eq_of_getLsbD_eq
  intro i hi
  simp only [BitVec.getLsbD_shiftLeft, BitVec.getLsbD_ushiftRight]
  have e3 : 8 + i - 8 = i := by omega
  by_cases h : 8 + i < 32
  · simp [h]
  · simp [BitVec.getLsbD_of_ge _ _ (show 32 ≤ 8 + i by omega)]

set_option maxRecDepth 100000 in
theorem more_any (c : BitVec 32) (s : ByteArray) (hs : s.size ≤ 1000000000000000) (W : World) :
    Calls Try.prog 53 #[.int .u32 (c.toNat : Int), .string s] W fun e w' => e = .returned (.int .u32 ((moreB c s.data.toList).toNat : Int)) ∧ Below W.heap.size W w' := by
  have hu70 := Try.underlying96
  by_cases h32 : (s.size : Int) < 32
  · go_enter Try.func53, Try.ntmps53
    go_wp2_with (fail)
    refine (slow_any c s hs _).mono ?_
    rintro e w' ⟨rfl, rfl⟩
    go_wp2_with (fail)
    go_ret
    exact ⟨rfl, Below.refl _ _⟩
  · obtain ⟨c', hc'⟩ : ∃ c', c' = ~~~ c := ⟨_, rfl⟩
    have hn := not32 c
    rw [← hc'] at hn
    have HN := Lib.hid hn
    have HC := Lib.hid hc'
    clear hn hc'
    go_enter Try.func53, Try.ntmps53
    go_wp2_with (fail)
    refine (table_any _).mono ?_
    rintro e w1 ⟨rfl, hb1⟩
    go_wp2_with (first
        | (with_reducible refine kit.wpList_alloc rfl 96 rfl (.agg (tabV 0)) zero70 ?_)
        | (with_reducible refine kit.wpList_store_row rfl 96 _ _ rfl w1.heap.size rfl _ _ (tabV 256) (heap_alloc_new _ _) rfl ?hs (by rw [tabV_size]; exact size70) (tabV_one 256) ?_))
    case hs => rw [tabV_size]; exact (tabV_size 0).symm
    have hh : ((w1.alloc (.cells (tabV 0) 96)).setRow w1.heap.size (tabV 256)).heap[w1.heap.size]? = some (.cells (tabV 256) 96 (0, 0)) := setRow_heap _ _ _ _ _ _ (heap_alloc_new _ _)
    have hb2 : Below W.heap.size W ((w1.alloc (.cells (tabV 0) 96)).setRow w1.heap.size (tabV 256)) := below_setRow (hb1.alloc hb1.size _) hb1.size _
    generalize (w1.alloc (.cells (tabV 0) 96)).setRow w1.heap.size (tabV 256) = wx at hh hb2 ⊢
    generalize w1.heap.size = G at hh ⊢
    have HT : Hid (∀ j, j < 256 → wx.cell? ⟨G, j, none⟩ = some (.int .u32 ((steps 8 (BitVec.ofNat 32 j)).toNat : Int))) := fun j hj => by
      rw [cell_of_row _ _ _ _ _ _ hh, tabV_at _ _ hj, tabAt, if_pos hj]
    clear hh
    rw [HN.out]
    go_loop [0, 6, 18] (fun x _ y => ∃ k : Nat, k ≤ s.size ∧ x = .int .u32 ((crcL c' (s.data.toList.take k)).toNat : Int) ∧ y = .int .i64 k) (fun _ _ y => s.size - (intOf y).toNat)
    case atStart => exact ⟨0, Nat.zero_le _, rfl, rfl⟩
    case round =>
      obtain ⟨k, hk, rfl, rfl⟩ := hrel
      by_cases hlt : k < s.size
      · have e : s.data.toList.take (k + 1) = s.data.toList.take k ++ [s[k]] := by
          rw [List.take_succ_eq_append_getElem (by simpa using hlt)]; rfl
        obtain ⟨d, hd⟩ : ∃ d, d = crcL c' (s.data.toList.take k) := ⟨_, rfl⟩
        have HE : Hid (crcL c' (s.data.toList.take (k + 1)) = byteStep d s[k]) := by
          show _ = _
          rw [e, crcL_snoc, ← hd]
        rw [← hd]
        clear e hd
        have hj : d.toNat % 256 ^^^ s[k].toNat < 256 := Nat.xor_lt_two_pow (n := 8) (by omega) s[k].toNat_lt
        have hi : bits BinOp.xor IntKind.u8 ((d.toNat : Int) % 256) (s[k].toNat : Int) = ((d.toNat % 256 ^^^ s[k].toNat : Nat) : Int) := by
          rw [← u8_xor_nat _ _ (by omega) s[k].toNat_lt]; rfl
        have hf := fast_step d s[k]
        obtain ⟨j, hjj⟩ : ∃ j, j = d.toNat % 256 ^^^ s[k].toNat := ⟨_, rfl⟩
        rw [← hjj] at hj hi hf
        obtain ⟨g, hg⟩ : ∃ g, g = steps 8 (BitVec.ofNat 32 j) := ⟨_, rfl⟩
        have hcell := HT.out j hj
        rw [← hg] at hcell hf
        have hd8 : (d.toNat : Int) / (256 : Int) = ((d >>> 8).toNat : Int) := by
          rw [BitVec.toNat_ushiftRight, Nat.shiftRight_eq_div_pow]; omega
        have hx := xor32 (d >>> 8) g
        rw [← hd8, ← hf] at hx
        have HF := Lib.hid hx
        have hjI : (j : Int) < 256 := by omega
        clear hjj hf hg hd8 hx hj
        go_wp2_with (fail)
        go_round
        case rel => exact ⟨k + 1, by omega, by rw [HE.out]; exact val_int HF.out, by go_num⟩
        case measure => simp [intOf]; omega
      · obtain rfl : k = s.size := by omega
        have HE : Hid (s.data.toList.take s.size = s.data.toList) := List.take_of_length_le (by rw [Lib.size_eq]; exact Nat.le_refl _)
        rw [HE.out]
        go_wp2_with (fail)
        go_ret
        exact ⟨by rw [moreB, ← HC.out]; exact ret_int (not32 _), hb2⟩

theorem sum_any (s : ByteArray) (hs : s.size ≤ 1000000000000000) (W : World) :
    Calls Try.prog 44 #[.string s] W fun e w' => e = .returned (.int .u32 ((moreB 0 s.data.toList).toNat : Int)) ∧ Below W.heap.size W w' := by
  go_enter Try.func44, Try.ntmps44
  go_wp2_with (fail)
  refine (more_any 0#32 s hs _).mono ?_
  rintro e w' ⟨rfl, hb⟩
  go_wp2_with (fail)
  go_ret
  exact ⟨rfl, hb⟩
theorem sum_as (s : ByteArray) (hs : s.size ≤ 140737488351232) (v : BitVec 32) (h : v = moreB 0 s.data.toList) (W : World) :
    Calls Try.prog 44 #[.string s] W fun e w' => e = .returned (.int .u32 (v.toNat : Int)) ∧ Below W.heap.size W w' := by
  rw [h]; exact sum_any s (by omega) W
theorem more_as (c : BitVec 32) (s : ByteArray) (hs : s.size ≤ 140737488351232) (v : BitVec 32) (h : v = moreB c s.data.toList) (W : World) :
    Calls Try.prog 53 #[.int .u32 (c.toNat : Int), .string s] W fun e w' => e = .returned (.int .u32 (v.toNat : Int)) ∧ Below W.heap.size W w' := by
  rw [h]; exact more_any c s (by omega) W
end Go.Proofs.Ytcbpeampjhegcaa.sum
