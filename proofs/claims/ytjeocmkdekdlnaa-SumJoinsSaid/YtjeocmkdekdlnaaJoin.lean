/-
  package sum: Join: the walk.
-/
import Derived.Test.YtjeocmkdekdlnaaMatrix
namespace Go.Proofs.Ytjeocmkdekdlnaa.sum
open Go.RowKit kit
set_option linter.unusedVariables false
attribute [local go_sem] kit.ite_max

def joinB (a b : BitVec 32) (n : Int) : BitVec 32 := steps (8 * (max 0 n).toNat) a ^^^ b

theorem twice_as (f g : BitVec 32 → BitVec 32) (hf : Lin f) (mv : Array Value) (h : mv = matV f) (hg : ∀ c, g c = f (f c)) (W : World) :
    Calls Try.prog 42 #[.agg mv] W fun e w' => e = .returned (.agg (matV g)) ∧ Below W.heap.size W w' := by
  have e : g = fun c => f (f c) := funext hg
  rw [h, e]; exact twice_any f hf W

theorem one_shl (k : Nat) : (2 : Int) ^ k % 4294967296 = ((steps 0 (1#32 <<< k)).toNat : Int) := by
  show _ = ((1#32 <<< k).toNat : Int)
  rw [BitVec.toNat_shiftLeft, Nat.shiftLeft_eq, show (2 : Int) ^ k = ((2 ^ k : Nat) : Int) from by simp]
  show _ = (((1 * 2 ^ k) % 2 ^ 32 : Nat) : Int)
  rw [Nat.one_mul]
  omega
theorem and1 (K : Nat) (hK : K < 9223372036854775808) : (bits BinOp.and IntKind.i64 (K : Int) 1 == 1) = decide (K % 2 = 1) := by
  have e : bits BinOp.and IntKind.i64 (K : Int) 1 = wrap64 (((BitVec.ofInt 64 (K : Int) &&& BitVec.ofInt 64 1).toNat : Nat) : Int) := IntWalk.i64_left _
  have e2 : (BitVec.ofInt 64 (K : Int) &&& BitVec.ofInt 64 1).toNat = K % 2 := by
    rw [BitVec.toNat_and, ofInt_u64 K (by omega), show (BitVec.ofInt 64 1).toNat = 1 from rfl, nat_mask1]
  rw [e, e2, IntWalk.wrap64_in _ (by omega), Bool.eq_iff_iff, beq_iff_eq, decide_eq_true_iff]
  omega

set_option maxHeartbeats 1000000 in
set_option maxRecDepth 100000 in
theorem join_any (a b : BitVec 32) (n : Int) (hn : n ≤ 9223372036854775807) (W : World) :
    Calls Try.prog 31 #[.int .u32 (a.toNat : Int), .int .u32 (b.toNat : Int), .int .i64 n] W fun e w' => e = .returned (.int .u32 ((joinB a b n).toNat : Int)) ∧ Below W.heap.size W w' := by
  have hu73 := Try.underlying73
  go_enter Try.func31, Try.ntmps31
  go_wp2_with (with_reducible refine kit.wpList_alloc rfl 73 rfl (.agg (partV (steps 8) 0)) (zero73 _) ?_)
  have hh := heap_alloc_new W (.cells (partV (steps 8) 0) 73)
  have hb : Below W.heap.size W (W.alloc (.cells (partV (steps 8) 0) 73)) := (Below.refl _ _).alloc (Nat.le_refl _) _
  generalize W.alloc (.cells (partV (steps 8) 0) 73) = wx at hh hb ⊢
  go_loopw [8, 9, 11, 16] (fun _ _ y _ wr => ∃ k : Nat, k ≤ 32 ∧ y = .int .i64 k ∧ wr.heap[W.heap.size]? = some (.cells (partV (steps 8) k) 73 (0, 0)) ∧ Below W.heap.size W wr) (fun _ _ y _ _ => 32 - (intOf y).toNat)
  case atStart => exact ⟨0, by omega, rfl, hh, hb⟩
  case round =>
    clear hh hb
    obtain ⟨k, hk, rfl, hg, hb⟩ := hrel
    by_cases hlt : k < 32
    · have hltI : (k : Int) < 32 := by omega
      have hcell : wr.cell? ⟨W.heap.size, k, none⟩ = some (colAt (steps 8) k k) := by rw [cell_of_row _ _ _ _ _ _ hg, partV_at _ _ _ hlt]
      have hfro := frozen_of_row _ _ k _ _ hg
      have HG := Lib.hid hg
      clear hg
      go_wp2_with (fail)
      go_loop [9, 16] (fun x y => ∃ j : Nat, j ≤ 8 ∧ x = .int .u32 ((steps j (1#32 <<< k)).toNat : Int) ∧ y = .int .i64 j) (fun _ y => 8 - (intOf y).toNat)
      case atStart => exact ⟨0, by omega, val_int (one_shl k), rfl⟩
      case round =>
        obtain ⟨j, hj, rfl, rfl⟩ := hrel
        obtain ⟨g, hg⟩ : ∃ g, g = steps j (1#32 <<< k) := ⟨_, rfl⟩
        have HJ := Lib.hid hg
        rw [← hg]
        clear hg
        by_cases hj8 : j < 8
        · go_wp2_with (go_at_call 40; refine (step_any g _).mono ?_; rintro e w' ⟨rfl, rfl⟩)
          go_round
          case rel => exact ⟨j + 1, by omega, by rw [steps, ← HJ.out], by go_num⟩
          case measure => simp [intOf]; omega
        · obtain rfl : j = 8 := by omega
          have HC : Hid (Value.int .u32 (g.toNat : Int) = colV (steps 8) k) := by show _ = _; rw [colV, ← HJ.out]
          go_wp2_with (fail)
          go_roundw
          case rel =>
            refine ⟨k + 1, by omega, by go_num, ?_, hb.setCell (p := ⟨W.heap.size, k, none⟩) (Nat.le_refl _) _⟩
            rw [heap_setCell_same _ _ _ _ _ _ HG.out, HC.out, partV_set]
          case measure => simp [intOf]; omega
    · have hk32 : k = 32 := by omega
      rw [hk32, partV_all] at hg
      clear hk32
      have hkI : ¬ (k : Int) < 32 := by omega
      obtain ⟨N, hN⟩ : ∃ N : Nat, max 0 n = (N : Int) := ⟨(max 0 n).toNat, by omega⟩
      have hN63 : N < 9223372036854775808 := by omega
      have HN := Lib.hid hN
      clear hN
      go_wp2_with (fail)
      rw [HN.out]
      go_loopw [0, 10] (fun x y wz => ∃ i : Nat, x = .int .u32 ((steps (8 * (N % 2 ^ i)) a).toNat : Int) ∧ y = .int .i64 ((N / 2 ^ i : Nat) : Int) ∧ wz.heap[W.heap.size]? = some (.cells (matV (steps (8 * 2 ^ i))) 73 (0, 0)) ∧ Below W.heap.size W wz) (fun _ y _ => (intOf y).toNat)
      case atStart => exact ⟨0, by simp [Nat.mod_one, steps], by simp, hg, hb⟩
      case round =>
        clear hg hb
        obtain ⟨i, rfl, rfl, hg, hb⟩ := hrel
        obtain ⟨K, hK⟩ : ∃ K, K = N / 2 ^ i := ⟨_, rfl⟩
        obtain ⟨mv, hmv⟩ : ∃ mv, mv = matV (steps (8 * 2 ^ i)) := ⟨_, rfl⟩
        obtain ⟨x, hx⟩ : ∃ x, x = steps (8 * (N % 2 ^ i)) a := ⟨_, rfl⟩
        have hKl : K < 9223372036854775808 := by rw [hK]; exact Nat.lt_of_le_of_lt (Nat.div_le_self _ _) hN63
        have hsz : (Try.prog.info? 73).map (·.size) = some mv.size := by rw [hmv, matV_size]; exact size73
        have hK2 : N / 2 ^ (i + 1) = K / 2 := by rw [Nat.pow_succ, ← Nat.div_div_eq_div_mul, ← hK]
        have hmod : N % 2 ^ (i + 1) = N % 2 ^ i + 2 ^ i * (K % 2) := by rw [Nat.pow_succ, Nat.mod_mul, ← hK]
        rw [← hK, ← hx]
        rw [← hmv] at hg
        have HK2 := Lib.hid hK2
        have HMod := Lib.hid hmod
        have HK := Lib.hid hK
        have HM := Lib.hid hmv
        have HX := Lib.hid hx
        clear hK2 hmod hK hmv hx
        by_cases h0 : 0 < K
        · have h0I : (0 : Int) < (K : Int) := by omega
          have hand := and1 K hKl
          have hlin := lin_steps (8 * 2 ^ i)
          have HT : Hid (∀ c, steps (8 * 2 ^ (i + 1)) c = steps (8 * 2 ^ i) (steps (8 * 2 ^ i) c)) := fun c => by
            rw [← steps_add]; congr 1; rw [Nat.pow_succ]; omega
          by_cases hodd : K % 2 = 1
          · have hand2 : (bits BinOp.and IntKind.i64 (K : Int) 1 == 1) = true := by rw [hand]; simp [hodd]
            clear hand
            go_wp2_with (with_reducible refine wpList_load_row rfl 73 (.tmp 7) rfl W.heap.size rfl _ mv _ _ hg hu73 rfl hsz ?_)
            refine (of_as _ hlin mv HM.out x _).mono ?_
            rintro e wv ⟨rfl, hbv⟩
            have hgv := (hbv.block W.heap.size (Array.getElem?_eq_some_iff.1 hg).1).trans hg
            have hb2 := hb.trans (hbv.mono hb.size)
            clear hg
            go_wp2_with (with_reducible refine wpList_load_row rfl 73 (.tmp 7) rfl W.heap.size rfl _ mv _ _ hgv hu73 rfl hsz ?_)
            refine (twice_as _ (steps (8 * 2 ^ (i + 1))) hlin mv HM.out HT.out _).mono ?_
            rintro e wt ⟨rfl, hbt⟩
            have hgt := (hbt.block W.heap.size (Array.getElem?_eq_some_iff.1 hgv).1).trans hgv
            have hb3 := hb2.trans (hbt.mono hb2.size)
            obtain ⟨m2, hm2⟩ : ∃ m2, m2 = matV (steps (8 * 2 ^ (i + 1))) := ⟨_, rfl⟩
            have hsz2 : (Try.prog.info? 73).map (·.size) = some m2.size := by rw [hm2, matV_size]; exact size73
            have hse : m2.size = mv.size := by rw [hm2, HM.out, matV_size, matV_size]
            have hone : ∀ v ∈ m2.toList, v.oneCell' = true := by rw [hm2]; exact one_matV _
            rw [← hm2]
            have HM2 := Lib.hid hm2
            clear hgv hm2
            go_wp2_with (with_reducible refine kit.wpList_store_row rfl 73 (.tmp 7) (.tmp 38) rfl W.heap.size rfl _ mv m2 hgt rfl hse hsz2 hone ?_)
            go_roundw
            case rel => exact ⟨i + 1, by rw [HMod.out, hodd, HX.out, ← steps_add]; congr 4; omega, by rw [HK2.out]; exact val_int (by omega), by rw [← HM2.out]; exact setRow_heap _ _ _ _ _ _ hgt, below_setRow hb3 (Nat.le_refl _) _⟩
            case measure => simp [intOf]; omega
          · have hand2 : (bits BinOp.and IntKind.i64 (K : Int) 1 == 1) = false := by rw [hand]; simp [hodd]
            have h0m : K % 2 = 0 := by omega
            have HO := Lib.hid h0m
            clear hand h0m
            have hgv := hg
            have hb2 := hb
            clear hg
            go_wp2_with (with_reducible refine wpList_load_row rfl 73 (.tmp 7) rfl W.heap.size rfl _ mv _ _ hgv hu73 rfl hsz ?_)
            refine (twice_as _ (steps (8 * 2 ^ (i + 1))) hlin mv HM.out HT.out _).mono ?_
            rintro e wt ⟨rfl, hbt⟩
            have hgt := (hbt.block W.heap.size (Array.getElem?_eq_some_iff.1 hgv).1).trans hgv
            have hb3 := hb2.trans (hbt.mono hb2.size)
            obtain ⟨m2, hm2⟩ : ∃ m2, m2 = matV (steps (8 * 2 ^ (i + 1))) := ⟨_, rfl⟩
            have hsz2 : (Try.prog.info? 73).map (·.size) = some m2.size := by rw [hm2, matV_size]; exact size73
            have hse : m2.size = mv.size := by rw [hm2, HM.out, matV_size, matV_size]
            have hone : ∀ v ∈ m2.toList, v.oneCell' = true := by rw [hm2]; exact one_matV _
            rw [← hm2]
            have HM2 := Lib.hid hm2
            clear hgv hm2
            go_wp2_with (with_reducible refine kit.wpList_store_row rfl 73 (.tmp 7) (.tmp 38) rfl W.heap.size rfl _ mv m2 hgt rfl hse hsz2 hone ?_)
            go_roundw
            case rel => exact ⟨i + 1, by rw [HMod.out, HO.out, HX.out]; rfl, by rw [HK2.out]; exact val_int (by omega), by rw [← HM2.out]; exact setRow_heap _ _ _ _ _ _ hgt, below_setRow hb3 (Nat.le_refl _) _⟩
            case measure => simp [intOf]; omega
        · obtain rfl : K = 0 := by omega
          have hlt : N < 2 ^ i := by
            have := HK.out
            rcases Nat.lt_or_ge N (2 ^ i) with h | h
            · exact h
            · have := Nat.div_pos h (Nat.two_pow_pos i); omega
          obtain ⟨q, hq⟩ : ∃ q, q = x ^^^ b := ⟨_, rfl⟩
          have hxx := xor32 x b
          rw [← hq] at hxx
          have HQ := Lib.hid hq
          clear hq hg
          have HL := Lib.hid hlt
          clear hlt
          go_wp2_with (fail)
          go_ret
          exact ⟨by rw [joinB, HN.out, Int.toNat_natCast, ← Nat.mod_eq_of_lt HL.out, ← HX.out, ← HQ.out]; rfl, hb⟩
end Go.Proofs.Ytjeocmkdekdlnaa.sum
