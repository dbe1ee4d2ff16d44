/-
  package sum: a matrix as the columns of a linear function; of, twice, Join: the walks.
-/
import Derived.Test.YtjeocmkdekdlnaaSumLaws
import Derived.Deep.MidRow
namespace Go.Proofs.Ytjeocmkdekdlnaa.sum
open Go.RowKit kit
set_option linter.unusedVariables false

def Lin (f : BitVec 32 → BitVec 32) : Prop := ∀ a b, f (a ^^^ b) = f a ^^^ f b
def colV (f : BitVec 32 → BitVec 32) (i : Nat) : Value := .int .u32 ((f (1#32 <<< i)).toNat : Int)
/-- the matrix of f -/
def matV (f : BitVec 32 → BitVec 32) : Array Value := Array.ofFn (n := 32) fun i => colV f i.val
theorem matV_size (f : BitVec 32 → BitVec 32) : (matV f).size = 32 := by simp [matV]
theorem matV_at (f : BitVec 32 → BitVec 32) (i : Nat) (h : i < 32) : (matV f)[i]? = some (colV f i) := by simp [matV, h]
theorem one_colV (f : BitVec 32 → BitVec 32) (i : Nat) : (colV f i).oneCell' = true := by simp only [colV, Value.oneCell']

theorem Lin.zero {f : BitVec 32 → BitVec 32} (h : Lin f) : f 0#32 = 0#32 := by
  have := h 0#32 0#32
  rw [BitVec.xor_self, BitVec.xor_self] at this
  exact this
theorem lin_steps (k : Nat) : Lin (steps k) := steps_xor k

/-- the lowest i bits -/
def low (c : BitVec 32) (i : Nat) : BitVec 32 := BitVec.ofNat 32 (c.toNat % 2 ^ i)
theorem low_bit (c : BitVec 32) (i j : Nat) (hj : j < 32) : (low c i).getLsbD j = (decide (j < i) && c.getLsbD j) := by
  rw [low, BitVec.getLsbD_ofNat, Nat.testBit_mod_two_pow]
  simp [hj, BitVec.getLsbD]
theorem low_zero (c : BitVec 32) : low c 0 = 0#32 := by simp [low, Nat.mod_one]
theorem low_all (c : BitVec 32) : low c 32 = c := by
  apply BitVec.eq_of_getLsbD_eq
  intro i hi
  rw [low_bit _ _ _ hi]
  simp [hi]
theorem low_succ (c : BitVec 32) (i : Nat) (hi : i < 32) : low c (i + 1) = if c.getLsbD i then low c i ^^^ (1#32 <<< i) else low c i := by
  apply BitVec.eq_of_getLsbD_eq
  intro j hj
  rw [low_bit _ _ _ hj]
  by_cases h : c.getLsbD i = true
  · rw [if_pos h, BitVec.getLsbD_xor, low_bit _ _ _ hj, BitVec.getLsbD_shiftLeft, one_bit]
    rcases Nat.lt_trichotomy j i with h1 | h1 | h1
    · have e1 : j < i + 1 := by omega
      simp [h1, e1]
    · subst h1
      simp [h, hj]
    · have e1 : ¬ j < i + 1 := by omega
      have e2 : ¬ j < i := by omega
      have e3 : ¬ (j - i = 0) := by omega
      simp [e1, e2, e3]
  · rw [if_neg h, low_bit _ _ _ hj]
    by_cases e : j = i
    · subst e
      have h2 : c.getLsbD j = false := by simpa using h
      simp [h2]
    · have e1 : (j < i + 1) ↔ (j < i) := by omega
      simp [e1]

theorem bit_test (c : BitVec 32) (i : Nat) (hi : i < 32) : (bits BinOp.and IntKind.u32 ((c.toNat : Int) / 2 ^ i) 1 == 1) = c.getLsbD i := by
  have h1 : c.toNat / 2 ^ i < 4294967296 := Nat.lt_of_le_of_lt (Nat.div_le_self _ _) c.isLt
  have e : (c.toNat : Int) / 2 ^ i = ((c.toNat / 2 ^ i : Nat) : Int) := by simp
  rw [e, show (1 : Int) = ((1 : Nat) : Int) from rfl, u32_and_nat _ _ h1 (by decide), nat_mask1]
  rw [BitVec.getLsbD, Nat.testBit_eq_decide_div_mod_eq, Bool.eq_iff_iff, beq_iff_eq, decide_eq_true_iff]
  omega

theorem size73 : (Try.prog.info? 73).map (·.size) = some 32 := by kernel_rfl

set_option maxRecDepth 100000 in
theorem of_any (f : BitVec 32 → BitVec 32) (hf : Lin f) (c : BitVec 32) (W : World) :
    Calls Try.prog 41 #[.agg (matV f), .int .u32 (c.toNat : Int)] W fun e w' => e = .returned (.int .u32 ((f c).toNat : Int)) ∧ Below W.heap.size W w' := by
  obtain ⟨mv, hmv⟩ : ∃ mv, mv = matV f := ⟨_, rfl⟩
  rw [← hmv]
  have HM := Lib.hid hmv
  clear hmv
  go_enter Try.func41, Try.ntmps41
  go_wp2_with (fail)
  have hh := heap_alloc_new W (.cells mv 73)
  have hb : Below W.heap.size W (W.alloc (.cells mv 73)) := (Below.refl _ _).alloc (Nat.le_refl _) _
  generalize W.alloc (.cells mv 73) = wx at hh hb ⊢
  have HT : Hid (∀ j, j < 32 → wx.cell? ⟨W.heap.size, j, none⟩ = some (.int .u32 ((f (1#32 <<< j)).toNat : Int))) := fun j hj => by
    rw [cell_of_row _ _ _ _ _ _ hh, HM.out, matV_at _ _ hj]; rfl
  clear hh
  go_loop [5, 6, 7] (fun x _ y => ∃ i : Nat, i ≤ 32 ∧ x = .int .u32 ((f (low c i)).toNat : Int) ∧ y = .int .i64 i) (fun _ _ y => 32 - (intOf y).toNat)
  case atStart => exact ⟨0, by omega, val_int (by rw [low_zero, hf.zero]; rfl), rfl⟩
  case round =>
    obtain ⟨i, hi, rfl, rfl⟩ := hrel
    by_cases hlt : i < 32
    · have hltI : (i : Int) < 32 := by omega
      have hcell := HT.out i hlt
      obtain ⟨d, hd⟩ : ∃ d, d = f (low c i) := ⟨_, rfl⟩
      obtain ⟨g, hg⟩ : ∃ g, g = f (1#32 <<< i) := ⟨_, rfl⟩
      obtain ⟨r, hr⟩ : ∃ r, r = d ^^^ g := ⟨_, rfl⟩
      have hx := xor32 d g
      rw [← hr] at hx
      have ht := bit_test c i hlt
      have hs := low_succ c i hlt
      rw [← hd]
      rw [← hg] at hcell
      have HD := Lib.hid hd
      have HG := Lib.hid hg
      have HR := Lib.hid hr
      have HS := Lib.hid hs
      clear hd hg hr hs
      cases hbit : c.getLsbD i
      · rw [hbit] at ht
        have HB := Lib.hid hbit
        clear hbit
        go_wp2_with (fail)
        go_round
        case rel => exact ⟨i + 1, by omega, val_int (by rw [HS.out, if_neg (by rw [HB.out]; simp), ← HD.out]), by go_num⟩
        case measure => simp [intOf]; omega
      · rw [hbit] at ht
        have HB := Lib.hid hbit
        clear hbit
        go_wp2_with (fail)
        go_round
        case rel => exact ⟨i + 1, by omega, val_int (by rw [HS.out, if_pos HB.out, hf, ← HD.out, ← HG.out, HR.out]), by go_num⟩
        case measure => simp [intOf]; omega
    · obtain rfl : i = 32 := by omega
      have HA := Lib.hid (low_all c)
      go_wp2_with (fail)
      go_ret
      exact ⟨by rw [HA.out]; rfl, hb⟩

theorem of_as (f : BitVec 32 → BitVec 32) (hf : Lin f) (mv : Array Value) (h : mv = matV f) (c : BitVec 32) (W : World) :
    Calls Try.prog 41 #[.agg mv, .int .u32 (c.toNat : Int)] W fun e w' => e = .returned (.int .u32 ((f c).toNat : Int)) ∧ Below W.heap.size W w' := by
  rw [h]; exact of_any f hf c W

/-- the array of a matrix while it is filled: the first k columns of f, noughts behind -/
def colAt (f : BitVec 32 → BitVec 32) (k i : Nat) : Value := if i < k then colV f i else .int .u32 0
def partV (f : BitVec 32 → BitVec 32) (k : Nat) : Array Value := Array.ofFn (n := 32) fun i => colAt f k i.val
theorem partV_size (f : BitVec 32 → BitVec 32) (k : Nat) : (partV f k).size = 32 := by simp [partV]
theorem partV_at (f : BitVec 32 → BitVec 32) (k i : Nat) (h : i < 32) : (partV f k)[i]? = some (colAt f k i) := by simp [partV, h]
theorem partV_all (f : BitVec 32 → BitVec 32) : partV f 32 = matV f := by
  unfold partV matV
  congr 1
  funext i
  rw [colAt, if_pos i.isLt]
theorem partV_set (f : BitVec 32 → BitVec 32) (k : Nat) : (partV f k).setIfInBounds k (colV f k) = partV f (k + 1) := by
  apply Array.ext_getElem?
  intro i
  rw [Array.getElem?_setIfInBounds]
  by_cases hi : i < 32
  · rw [partV_at _ _ _ hi, partV_at _ _ _ hi]
    by_cases h : k = i
    · subst h; simp [colAt, partV_size, hi]
    · have e : (i < k) ↔ (i < k + 1) := by omega
      simp [h, colAt, e]
  · have e1 : (partV f k)[i]? = none := Array.getElem?_eq_none (by rw [partV_size]; omega)
    have e2 : (partV f (k + 1))[i]? = none := Array.getElem?_eq_none (by rw [partV_size]; omega)
    rw [e1, e2]
    by_cases h : k = i
    · subst h; simp [partV_size, hi]
    · simp [h]
theorem one_matV (f : BitVec 32 → BitVec 32) : ∀ v ∈ (matV f).toList, v.oneCell' = true := by
  intro v hv
  obtain ⟨i, hi⟩ := List.mem_iff_getElem?.1 hv
  have h2 : (matV f)[i]? = some v := by simpa using hi
  have h3 : i < 32 := by
    rcases Nat.lt_or_ge i 32 with h | h
    · exact h
    · rw [Array.getElem?_eq_none (by rw [matV_size]; exact h)] at h2; cases h2
  rw [matV_at f i h3] at h2
  rw [← Option.some.inj h2]
  exact one_colV f i
theorem zero73' : (Try.prog.info? 73).map (·.zero) = some (some (.agg (partV (fun c => c) 0))) := by kernel_rfl
theorem zero73 (f : BitVec 32 → BitVec 32) : (Try.prog.info? 73).map (·.zero) = some (some (.agg (partV f 0))) := by
  have e : partV f 0 = partV (fun c => c) 0 := by
    apply Array.ext_getElem?
    intro i
    by_cases h : i < 32
    · rw [partV_at _ _ _ h, partV_at _ _ _ h]; rfl
    · rw [Array.getElem?_eq_none (by rw [partV_size]; omega), Array.getElem?_eq_none (by rw [partV_size]; omega)]
  rw [e]
  exact zero73'

theorem S_of {w : World} {g k : Nat} {mv : Array Value} {t : TypeId} {v : Value} (h : w.heap[g]? = some (.cells mv t (0, 0))) (hk : mv[k]? = some v) : w.rangeAt g 0 mv.toList ∧ w.cell? ⟨g, k, none⟩ = some v := by
  refine ⟨?_, by rw [cell_of_row _ _ _ _ _ _ h, hk]⟩
  intro j u hj
  rw [Nat.zero_add, cell_of_row _ _ _ _ _ _ h]
  simpa using hj
theorem S_store {w : World} {g k : Nat} {mv : Array Value} {t : TypeId} {v u : Value} (h : w.heap[g]? = some (.cells mv t (0, 0))) (hk : mv[k]? = some v) : (w.setCell ⟨g + 1, k, none⟩ u).rangeAt g 0 mv.toList ∧ (w.setCell ⟨g + 1, k, none⟩ u).cell? ⟨g, k, none⟩ = some v :=
  S_of (by rw [heap_setCell_other _ _ _ _ (by simp)]; exact h) hk
theorem twice_step {f : BitVec 32 → BitVec 32} {wr wz : World} {g k : Nat} (h2 : wr.heap[g]? = some (.cells (partV f k) 73 (0, 0))) (hk : k < 32) (hb : Below wr.drew.heap.size wr.drew wz) :
    Hid (wz.heap[g]? = some (.cells (partV f k) 73 (0, 0)) ∧ wz.cell? ⟨g, k, none⟩ = some (colAt f k k) ∧ wz.frozen? ⟨g, k, none⟩ = false) := by
  have h : wz.heap[g]? = some (.cells (partV f k) 73 (0, 0)) := (hb.block g (Array.getElem?_eq_some_iff.1 h2).1).trans h2
  exact ⟨h, by rw [cell_of_row _ _ _ _ _ _ h, partV_at _ _ _ hk], frozen_of_row _ _ k _ _ h⟩

set_option maxHeartbeats 1000000 in
set_option maxRecDepth 100000 in
theorem twice_any (f : BitVec 32 → BitVec 32) (hf : Lin f) (W : World) :
    Calls Try.prog 42 #[.agg (matV f)] W fun e w' => e = .returned (.agg (matV fun c => f (f c))) ∧ Below W.heap.size W w' := by
  have hu73 := Try.underlying73
  obtain ⟨mv, hmv⟩ : ∃ mv, mv = matV f := ⟨_, rfl⟩
  rw [← hmv]
  have HM := Lib.hid hmv
  clear hmv
  go_enter Try.func42, Try.ntmps42
  go_wp2_with (with_reducible refine kit.wpList_alloc rfl 73 rfl (.agg (partV (fun c => f (f c)) 0)) (zero73 _) ?_)
  have hh := heap_alloc_old (W.alloc (.cells mv 73)) (.cells (partV (fun c => f (f c)) 0) 73) (r := W.heap.size) (by simp)
  rw [heap_alloc_new] at hh
  have hh2 : ((W.alloc (.cells mv 73)).alloc (.cells (partV (fun c => f (f c)) 0) 73)).heap[W.heap.size + 1]? = some (.cells (partV (fun c => f (f c)) 0) 73) := by
    have := heap_alloc_new (W.alloc (.cells mv 73)) (.cells (partV (fun c => f (f c)) 0) 73)
    simpa using this
  have hb : Below W.heap.size W ((W.alloc (.cells mv 73)).alloc (.cells (partV (fun c => f (f c)) 0) 73)) := ((Below.refl _ _).alloc (Nat.le_refl _) _).alloc (by simp) _
  generalize (W.alloc (.cells mv 73)).alloc (.cells (partV (fun c => f (f c)) 0) 73) = wx at hh hh2 hb ⊢
  go_loopw [3, 4] (fun _ y wr => ∃ k : Nat, k ≤ 32 ∧ y = .int .i64 k ∧ wr.heap[W.heap.size]? = some (.cells mv 73 (0, 0)) ∧ wr.heap[W.heap.size + 1]? = some (.cells (partV (fun c => f (f c)) k) 73 (0, 0)) ∧ Below W.heap.size W wr) (fun _ y _ => 32 - (intOf y).toNat)
  case atStart => exact ⟨0, by omega, rfl, hh, hh2, hb⟩
  case round =>
    clear hh hh2 hb
    obtain ⟨k, hk, rfl, h1, h2, hb⟩ := hrel
    by_cases hlt : k < 32
    · have hltI : (k : Int) < 32 := by omega
      obtain ⟨c, hc⟩ : ∃ c, c = f (1#32 <<< k) := ⟨_, rfl⟩
      have hcell : wr.cell? ⟨W.heap.size, k, none⟩ = some (.int .u32 (c.toNat : Int)) := by
        rw [cell_of_row _ _ _ _ _ _ h1, HM.out, matV_at _ _ hlt, hc]; rfl
      have hrange : wr.rangeAt W.heap.size 0 mv.toList := by
        intro j v hj
        rw [Nat.zero_add, cell_of_row _ _ _ _ _ _ h1]
        simpa using hj
      have hmk : mv[k]? = some (.int .u32 (c.toNat : Int)) := by rw [HM.out, matV_at _ _ hlt, hc]; rfl
      have hsz : (Try.prog.info? 73).map (·.size) = some mv.toList.length := by rw [Array.length_toList, HM.out, matV_size]; exact size73
      have HC := Lib.hid hc
      have HC2 : Hid (colV (fun c => f (f c)) k = .int .u32 ((f c).toNat : Int)) := by (show _ = _; rw [colV, ← HC.out])
      have H1 := Lib.hid h1
      have H2 := Lib.hid h2
      clear hc h1 h2
      go_wp2_with (fail)
      go_region_held3 (fun w' => w'.rangeAt W.heap.size 0 mv.toList ∧ w'.cell? ⟨W.heap.size, k, none⟩ = some (.int .u32 (c.toNat : Int)))
        (first | exact S_store HZ1 hmk | exact S_of HZ1 hmk | go_keep)
        (first | (go_at_call 41; refine (of_as f hf mv HM.out c _).mono ?_; rintro e wz ⟨rfl, hbz⟩; have HZ := twice_step H2.out hlt hbz; have HZ1 := (hbz.block W.heap.size (Array.getElem?_eq_some_iff.1 H1.out).1).trans H1.out; have hcz := HZ.out.2.1; have hfz := HZ.out.2.2; have hbz2 := hb.drew.trans (hbz.mono hb.size)))
      rw [← HC2.out]
      go_wp2_with (fail)
      go_roundw
      case rel =>
        refine ⟨k + 1, by omega, by go_num, ?_, ?_, hbz2.setCell (p := ⟨W.heap.size + 1, k, none⟩) (by simp) _⟩
        · rw [heap_setCell_other _ _ _ _ (by simp)]; exact HZ1
        · rw [heap_setCell_same _ _ _ _ _ _ HZ.out.1, partV_set]
      case measure => simp [intOf]; omega
    · obtain rfl : k = 32 := by omega
      rw [partV_all] at h2
      clear h1
      go_wp2_with (first
        | (with_reducible refine wpList_load_row rfl 73 _ rfl (W.heap.size + 1) rfl _ (matV fun c => f (f c)) _ _ h2 hu73 rfl (by rw [matV_size]; exact size73) ?_)
        | (with_reducible refine kit.wpList_store_row rfl 73 _ _ rfl (W.heap.size + 1) rfl _ _ (matV fun c => f (f c)) h2 rfl rfl (by rw [matV_size]; exact size73) (one_matV _) ?_))
      refine bodyPost_ret_by (v := .agg (matV fun c => f (f c))) (results_cell_row (ty := 73) rfl _ _ (W.heap.size + 1) _ (matV fun c => f (f c)) _ _ rfl (setRow_heap _ _ _ _ _ _ h2) hu73 rfl (by rw [matV_size]; exact size73)) rfl ⟨rfl, below_setRow hb (by omega) _⟩
end Go.Proofs.Ytjeocmkdekdlnaa.sum
