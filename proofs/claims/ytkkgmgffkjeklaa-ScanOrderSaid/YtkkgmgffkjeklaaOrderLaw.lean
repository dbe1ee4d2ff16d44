/-
  A log laid out over the cells, wherever: what scan.Run makes of it (no program).
-/
import Derived.Test.YtkkgmgffkjeklaaScanRun
namespace Go.Proofs.Ytkkgmgffkjeklaa.lawScanOrder
open Go.RowKit kit sl Go.Proofs.Ytkkgmgffkjeklaa.use Go.Proofs.Ytkkgmgffkjeklaa.blob Go.Proofs.Ytkkgmgffkjeklaa.seal Go.Proofs.Ytkkgmgffkjeklaa.disk
set_option linter.unusedVariables false
def atP (n t i : Nat) : Nat := if i + t < n then 2 + i + t else 2 + i + t - n
def invP (n t k : Nat) : Nat := if t ≤ k - 2 then k - 2 - t else k - 2 + n - t
theorem at_bd {n t i : Nat} (ht : t < n) (hi : i < n) : 2 ≤ atP n t i ∧ atP n t i < n + 2 := by unfold atP; split <;> omega
theorem inv_at {n t i : Nat} (ht : t < n) (hi : i < n) : invP n t (atP n t i) = i := by unfold invP atP; split <;> split <;> omega
theorem at_inv {n t k : Nat} (ht : t < n) (h2 : 2 ≤ k) (hk : k < n + 2) : invP n t k < n ∧ atP n t (invP n t k) = k := by unfold invP atP; split <;> split <;> omega
def textC (n t : Nat) (B : Nat → List UInt8) (i k : Nat) : List UInt8 := if 2 ≤ k ∧ invP n t k < i then B (invP n t k) else []
def cellsC (n t : Nat) (B : Nat → List UInt8) (i : Nat) : List ByteArray := (List.range (n + 2)).map fun k => str (textC n t B i k)
theorem cellsC_len (n t : Nat) (B : Nat → List UInt8) (i : Nat) : (cellsC n t B i).length = n + 2 := by simp [cellsC]
theorem cellsC_at {n t k : Nat} (B : Nat → List UInt8) (i : Nat) (h : k < n + 2) : (cellsC n t B i)[k]? = some (str (textC n t B i k)) := by
  unfold cellsC
  rw [List.getElem?_map, List.getElem?_range h]
  rfl
theorem cellsC_zero (n t : Nat) (B : Nat → List UInt8) : List.replicate (n + 2) (str []) = cellsC n t B 0 := by
  apply List.ext_getElem?
  intro k
  rcases Nat.lt_or_ge k (n + 2) with hk | hk
  · rw [cellsC_at _ _ hk, List.getElem?_replicate, if_pos hk]
    unfold textC
    rw [if_neg (by omega)]
  · rw [List.getElem?_eq_none (by simpa using hk), List.getElem?_eq_none (by rw [cellsC_len]; exact hk)]
theorem cellsC_set {n t i : Nat} (B : Nat → List UInt8) (ht : t < n) (hi : i < n) : (cellsC n t B i).set (atP n t i) (str (B i)) = cellsC n t B (i + 1) := by
  apply List.ext_getElem?
  intro k
  have hb := at_bd ht hi
  rw [List.getElem?_set]
  rcases Nat.lt_or_ge k (n + 2) with hk | hk
  · rw [cellsC_at _ _ hk, cellsC_at _ _ hk]
    by_cases e : atP n t i = k
    · rw [if_pos e, if_pos (by rw [cellsC_len]; omega)]
      unfold textC
      have h1 := inv_at ht hi
      rw [e] at h1
      rw [h1, if_pos (by omega)]
    · rw [if_neg e]
      unfold textC
      by_cases h2 : 2 ≤ k
      · obtain ⟨h3, h4⟩ := at_inv ht h2 hk
        have hne : invP n t k ≠ i := fun h => e (by rw [← h]; exact h4)
        by_cases h5 : invP n t k < i
        · rw [if_pos ⟨h2, h5⟩, if_pos ⟨h2, by omega⟩]
        · rw [if_neg (by omega), if_neg (by omega)]
      · rw [if_neg (by omega), if_neg (by omega)]
  · rw [if_neg (by omega), List.getElem?_eq_none (by rw [cellsC_len]; exact hk), List.getElem?_eq_none (by rw [cellsC_len]; exact hk)]
def bodyC (after : Int) (zs : Nat → List Blob) (la : Nat → Bool) (i : Nat) : List UInt8 := sealB 1 (after + 1 + (i : Int)) (writeB (zs i) (la i))
theorem sealE_ok {after : Int} {zs : List Blob} {b : Bool} (ha : 0 ≤ after ∧ after ≤ 2147483647) (hw : writeE zs = 0) : sealE 1 after (writeB zs b).length = 0 := by
  have := (read_write b hw).1
  unfold sealE
  rw [if_neg (by omega), if_neg (by omega)]
theorem now_nil (cs : List ByteArray) (k : Nat) {s : List UInt8} (h : cs[k]? = some (str s)) : nowL cs [] k = s := by
  unfold nowL nowD
  show (cs.getD ((k : Int)).toNat ⟨#[]⟩).data.toList = s
  rw [Int.toNat_natCast, List.getD_eq_getElem?_getD, h]
  rfl
section
variable {n t : Nat} {after : Int} {zs : Nat → List Blob} {la : Nat → Bool}
theorem log_at (ht : t < n) (ha : 0 ≤ after ∧ after + (n : Int) ≤ 2147483647) (hw : ∀ j, j < n → writeE (zs j) = 0) {k : Nat} (h2 : 2 ≤ k) (hk : k < n + 2) :
    logF (cellsC n t (bodyC after zs la) n) [] k = some (after + 1 + (invP n t k : Int), zs (invP n t k), la (invP n t k)) := by
  obtain ⟨h3, h4⟩ := at_inv ht h2 hk
  obtain ⟨j, hj⟩ : ∃ j, invP n t k = j := ⟨_, rfl⟩
  have hn := now_nil _ k (cellsC_at (n := n) (t := t) (bodyC after zs la) n hk)
  have ht2 : textC n t (bodyC after zs la) n k = sealB 1 (after + 1 + (j : Int)) (writeB (zs j) (la j)) := by unfold textC; rw [if_pos ⟨h2, h3⟩, hj]; rfl
  rw [hj] at h3 ⊢
  rw [ht2] at hn
  have hE := sealE_ok (after := after + 1 + (j : Int)) (b := la j) (by omega) (hw j h3)
  obtain ⟨o1, o2, o3, o4⟩ := open_seal _ _ _ hE
  obtain ⟨r1, r2, r3⟩ := read_write (la j) (hw j h3)
  unfold logF
  rw [hn, o1, o2, o3, o4, if_pos ⟨rfl, rfl⟩, r2, r3]
  rfl
theorem scan_at (ht : t < n) (ha : 0 ≤ after ∧ after + (n : Int) ≤ 2147483647) (hw : ∀ j, j < n → writeE (zs j) = 0) {y : Nat × Int × List Blob × Bool} :
    y ∈ scanF (cellsC n t (bodyC after zs la) n) [] 2 ↔ ∃ j, j < n ∧ y = (atP n t j, after + 1 + (j : Int), zs j, la j) := by
  unfold scanF
  rw [cellsC_len, List.mem_filterMap]
  constructor
  · rintro ⟨k, hk, he⟩
    rw [List.mem_range'_1] at hk
    rw [log_at ht ha hw hk.1 (by omega)] at he
    obtain ⟨h3, h4⟩ := at_inv ht hk.1 (by omega : k < n + 2)
    refine ⟨invP n t k, h3, ?_⟩
    rw [h4]
    exact (Option.some.inj he).symm
  · rintro ⟨j, hj, rfl⟩
    obtain ⟨h1, h2⟩ := at_bd ht hj
    refine ⟨atP n t j, by rw [List.mem_range'_1]; omega, ?_⟩
    rw [log_at ht ha hw h1 h2, inv_at ht hj]
    rfl
/-- where the last one ends that has last -/
def wholeW (f : Nat → Bool) : Nat → Nat
  | 0 => 0
  | i + 1 => if f i then i + 1 else wholeW f i
theorem wholeW_le (f : Nat → Bool) : ∀ n, wholeW f n ≤ n := by
  intro n
  induction n with
  | zero => exact Nat.le_refl _
  | succ n ih => unfold wholeW; split <;> omega
theorem whole_is {outs : List LRow} {f : Nat → Bool} : ∀ j, j ≤ outs.length → (∀ (k : Nat) (r : LRow), outs[k]? = some r → r.2.2.2.1 = f k) → wholeF (outs.take j) = wholeW f j := by
  intro j
  induction j with
  | zero => intro _ _; rfl
  | succ j ih =>
    intro hj h
    obtain ⟨r, hr⟩ : ∃ r, outs[j]? = some r := ⟨_, List.getElem?_eq_getElem hj⟩
    rw [List.take_add_one, hr]
    show wholeF (outs.take j ++ [r]) = _
    rw [whole_add, h j r hr, ih (by omega) h, wholeW, List.length_take, Nat.min_eq_left (by omega)]
theorem top_le {B : Int} (ha : after ≤ B) : ∀ {tab : List LRow}, (∀ r ∈ tab, r.1 ≤ B) → topF after tab ≤ B := by
  intro tab
  induction tab with
  | nil => intro _; exact ha
  | cons r l ih =>
    intro h
    have h1 := ih fun s hs => h s (List.mem_cons_of_mem _ hs)
    have h2 := h r List.mem_cons_self
    show max _ _ ≤ _
    omega
theorem top_ge : ∀ {tab : List LRow}, after ≤ topF after tab ∧ ∀ r ∈ tab, r.1 ≤ topF after tab := by
  intro tab
  induction tab with
  | nil => exact ⟨Int.le_refl _, fun r hr => absurd hr List.not_mem_nil⟩
  | cons r l ih =>
    have e : topF after (r :: l) = max (topF after l) r.1 := rfl
    rw [e]
    refine ⟨by omega, fun s hs => ?_⟩
    rcases List.mem_cons.1 hs with rfl | hs
    · omega
    · have := ih.2 s hs; omega
theorem order_law (ht : t < n) (ha : 0 ≤ after ∧ after + (n : Int) ≤ 2147483647) (hw : ∀ j, j < n → writeE (zs j) = 0) {tab outs : List LRow} (h : RunOk (cellsC n t (bodyC after zs la) n) [] after tab outs) :
    outs.length = n ∧ (∀ (j : Nat) (r : LRow), outs[j]? = some r → r.1 = after + 1 + (j : Int) ∧ r.2.1 = atP n t j ∧ r.2.2.1 = zs j ∧ r.2.2.2.1 = la j) ∧ topF after tab = after + (n : Int) ∧ wholeF outs = wholeW la n ∧ ∀ r ∈ outs, r ∈ tab := by
  obtain ⟨_, _, htab, hch, hend⟩ := h
  have mem : ∀ r ∈ tab, ∃ j, j < n ∧ stripL r = (atP n t j, after + 1 + (j : Int), zs j, la j) := fun r hr => (scan_at ht ha hw).1 (by rw [← htab]; exact List.mem_map_of_mem hr)
  have ex : ∀ j, j < n → ∃ r ∈ tab, stripL r = (atP n t j, after + 1 + (j : Int), zs j, la j) := fun j hj => by
    have := (scan_at (after := after) (zs := zs) (la := la) ht ha hw).2 ⟨j, hj, rfl⟩
    rw [← htab] at this
    exact List.mem_map.1 this
  have hlen : outs.length = n := by
    rcases Nat.lt_trichotomy outs.length n with g | g | g
    · obtain ⟨r, hr, e⟩ := ex _ g
      have e1 : r.1 = after + 1 + (outs.length : Int) := congrArg (fun y => y.2.1) e
      exact absurd (List.find?_eq_none.1 hend r hr) (by simp [e1])
    · exact g
    · obtain ⟨r, hr⟩ : ∃ r, outs[n]? = some r := ⟨_, List.getElem?_eq_getElem g⟩
      have hf := hch n r hr
      obtain ⟨j, hj, e⟩ := mem r (List.mem_of_find?_eq_some hf)
      have e1 : r.1 = after + 1 + (j : Int) := congrArg (fun y => y.2.1) e
      have e2 : r.1 = after + 1 + (n : Int) := by simpa using List.find?_some hf
      omega
  have hat : ∀ (j : Nat) (r : LRow), outs[j]? = some r → r.1 = after + 1 + (j : Int) ∧ r.2.1 = atP n t j ∧ r.2.2.1 = zs j ∧ r.2.2.2.1 = la j := fun j r hr => by
    have hf := hch j r hr
    obtain ⟨i, hi, e⟩ := mem r (List.mem_of_find?_eq_some hf)
    have e1 : r.1 = after + 1 + (i : Int) := congrArg (fun y => y.2.1) e
    have e2 : r.1 = after + 1 + (j : Int) := by simpa using List.find?_some hf
    obtain rfl : i = j := by omega
    exact ⟨e2, congrArg (fun y => y.1) e, congrArg (fun y => y.2.2.1) e, congrArg (fun y => y.2.2.2) e⟩
  refine ⟨hlen, hat, ?_, ?_, fun r hr => ?_⟩
  · have h1 := top_le (after := after) (B := after + (n : Int)) (by omega) (tab := tab) fun r hr => by
      obtain ⟨j, hj, e⟩ := mem r hr
      have e1 : r.1 = after + 1 + (j : Int) := congrArg (fun y => y.2.1) e
      omega
    obtain ⟨r, hr, e⟩ := ex (n - 1) (by omega)
    have e1 : r.1 = after + 1 + ((n - 1 : Nat) : Int) := congrArg (fun y => y.2.1) e
    have := (top_ge (after := after) (tab := tab)).2 r hr
    omega
  · have := whole_is (outs := outs) (f := la) n (by omega) fun k r hr => (hat k r hr).2.2.2
    rwa [List.take_of_length_le (by omega)] at this
  · obtain ⟨j, hj⟩ := List.mem_iff_getElem?.1 hr
    exact List.mem_of_find?_eq_some (hch j r hj)
end
end Go.Proofs.Ytkkgmgffkjeklaa.lawScanOrder
