/-
  BitsOne: the plain law, and the walk.
-/
import Derived.Test.YtjeocmkdekdlnaaWidths
import Derived.Deep.OwnRows
namespace Go.Proofs.Ytjeocmkdekdlnaa.lawBitsOne
open Go.RowKit kit Go.Proofs.Ytjeocmkdekdlnaa.bits
set_option linter.unusedVariables false

def oneF (k j : Nat) : Value := .int .i64 (if j < k then 1 else 0)
theorem infoI : (Try.prog.info? 3).map (fun i => (i.zero, i.size, i.bytes)) = some (some (.int .i64 0), 1, 8) := by kernel_rfl

attribute [local go_sem] kit.ite_min
set_option maxRecDepth 100000 in
theorem one_any (s : ByteArray) (W : World) :
    Calls Try.prog 24 #[.string s] W fun e w' => ∃ v, e = .returned v ∧ SliceAt w' 1 v ((List.replicate (8 * min s.size 65536) (1 : Int)).map rowI) ∧ Below W.heap.size W w' := by
  obtain ⟨n, hn⟩ : ∃ n, n = 8 * min s.size 65536 := ⟨_, rfl⟩
  rw [← hn]
  have h1 : min (s.size : Int) 65536 * 8 = (n : Int) := by omega
  have hn2 : n ≤ 524288 := by omega
  have HN := Lib.hid hn
  clear hn
  have hmk := fun w : World => run_make_row' 40 3 (.int .i64 0) 8 Try.underlying40 infoI rfl .i64 .i64 n (by omega) (by omega) w
  go_enter Try.func24, Try.ntmps24
  go_wp2_with (fail)
  have hrow := World.rowIs_made W (.int .i64 0) n 3
  have hb0 := (Below.refl W.heap.size W).alloc (Nat.le_refl _) (Obj.cells (madeCells #[Value.int .i64 0] n) 3)
  generalize W.alloc (Obj.cells (madeCells #[Value.int .i64 0] n) 3) = W1 at hrow hb0 ⊢
  obtain ⟨G, hG⟩ : ∃ G, W.heap.size = G := ⟨_, rfl⟩
  rw [hG] at hrow ⊢
  have hGl : W.heap.size ≤ G := by omega
  have HG := Lib.hid hG
  clear hmk hG
  go_loopw [12] (fun y wr => ∃ k : Nat, k ≤ n ∧ y = .int .i64 k ∧ wr.rowIs G 3 n (oneF k) ∧ Below W.heap.size W wr) (fun y _ => n - (intOf y).toNat)
  case atStart => exact ⟨0, Nat.zero_le _, rfl, hrow, hb0⟩
  case round =>
    obtain ⟨k, hk, rfl, hr, hb⟩ := hrel
    by_cases hlt : k < n
    · have c1 := hr.cell hlt
      have f1 := hr.frozen k
      have hltI : (k : Int) < (n : Int) := by omega
      have hr2 := (hr.set k (.int .i64 1)).congr (g := oneF (k + 1)) (fun i hi => by
        unfold oneF
        by_cases h : i = k
        · rw [if_pos h, if_pos (by omega)]
        · rw [if_neg h]
          by_cases h2 : i < k
          · rw [if_pos h2, if_pos (by omega)]
          · rw [if_neg h2, if_neg (by omega)])
      have hb2 := hb.setCell (p := ⟨G, k, none⟩) hGl (.int .i64 1)
      go_wp2_with (fail)
      exact ⟨⟨k + 1, by omega, rfl, hr2, hb2⟩, by show n - (((k : Int) + 1).toNat) < n - ((k : Int).toNat); omega⟩
    · have hke : k = n := by omega
      subst hke
      have hsl : SliceAt wr 1 (.slice (some ⟨G, 0, none⟩) k k) ((List.replicate k (1 : Int)).map rowI) := by
        by_cases h0 : k = 0
        · left; subst h0; exact ⟨rfl, .inr ⟨_, _, rfl⟩⟩
        · right
          refine ⟨G, 0, k, by simp, by simp, by unfold maxLen; omega, by simp; omega, hr.lt, ?_⟩
          intro i r hi
          rw [List.getElem?_map] at hi
          obtain ⟨x, hx, rfl⟩ := Option.map_eq_some_iff.1 hi
          have hil : i < k := by have := (List.getElem?_eq_some_iff.1 hx).1; simpa using this
          rw [List.getElem?_replicate, if_pos hil] at hx
          have hx1 := Option.some.inj hx
          subst hx1
          refine ⟨rfl, fun j y hy => ?_⟩
          have hj : j = 0 := by have := (List.getElem?_eq_some_iff.1 hy).1; simp [rowI] at this; omega
          subst hj
          have hy1 := Option.some.inj hy
          subst hy1
          have := hr.cell hil
          rw [oneF, if_pos hil] at this
          simpa using this
      go_wp2_with (fail)
      go_ret
      exact ⟨_, rfl, hsl, hb⟩

/-! ### the plain law -/
theorem bits_eq (s t : ByteArray) (m a : Nat) (h : unpackVals s a (List.replicate m 1) = unpackVals t a (List.replicate m 1)) : leN s.data.toList / 2 ^ a % 2 ^ m = leN t.data.toList / 2 ^ a % 2 ^ m := by
  induction m generalizing a with
  | zero => simp [Nat.mod_one]
  | succ m ih =>
    rw [List.replicate_succ, unpackVals, unpackVals] at h
    obtain ⟨h1, h2⟩ := List.cons.inj h
    have h3 := ih (a + 1) h2
    have h1' : leN s.data.toList / 2 ^ a % 2 = leN t.data.toList / 2 ^ a % 2 := h1
    rw [Nat.pow_succ 2 a, ← Nat.div_div_eq_div_mul, ← Nat.div_div_eq_div_mul] at h3
    rw [Nat.pow_succ, Nat.mul_comm, Nat.mod_mul, Nat.mod_mul, h1', h3]
theorem one_err (s : ByteArray) (k : Nat) (hk : k ≤ 8 * s.size) : unpackErr s (List.replicate k 1) = 0 := by
  have h : ∀ k, widthErr (List.replicate k 1) = false ∧ wtotal (List.replicate k 1) = k := by
    intro k
    induction k with
    | zero => exact ⟨rfl, rfl⟩
    | succ k ih =>
      rw [List.replicate_succ, widthErr, if_neg (by omega), wtotal, ih.2]
      exact ⟨ih.1, by simp; omega⟩
  rw [unpackErr, (h k).1, (h k).2, if_neg (by simp), if_neg (by omega)]
theorem one_plain (s t : ByteArray) (hs : s.size ≤ 65536) (ht : t.size ≤ 65536) :
    (unpackVals s 0 (List.replicate (8 * min s.size 65536) 1) = unpackVals t 0 (List.replicate (8 * min t.size 65536) 1)) ↔ s = t := by
  constructor
  · intro h
    have hl := congrArg List.length h
    rw [unpackVals_len, unpackVals_len, List.length_replicate, List.length_replicate] at hl
    have hst : s.size = t.size := by omega
    rw [show min s.size 65536 = s.size from by omega, show min t.size 65536 = s.size from by omega] at h
    have h2 := bits_eq s t _ 0 h
    have a1 := leN_lt s.data.toList
    have a2 := leN_lt t.data.toList
    rw [Nat.pow_zero, Nat.div_one, Nat.div_one, Nat.pow_mul] at h2
    rw [← Lib.size_eq] at a1 a2
    rw [← hst] at a2
    rw [Nat.mod_eq_of_lt a1, Nat.mod_eq_of_lt a2] at h2
    have h3 := leN_inj (by rw [← Lib.size_eq, ← Lib.size_eq]; exact hst) h2
    exact ByteArray.ext (Array.toList_inj.1 h3)
  · rintro rfl; rfl

set_option maxRecDepth 100000 in
theorem walk (s : ByteArray) (hs : s.size ≤ reachBytes) (t : ByteArray) (ht : t.size ≤ reachBytes) (W : World) :
    Calls Try.prog 9 #[.string s, .string t] W fun e w' => e = .returned (.bool true) ∧ Below W.heap.size W w' := by
  have hr : reachBytes = 140737488351232 := rfl
  rw [hr] at hs ht
  clear hr
  go_enter Try.func9, Try.ntmps9
  go_wp2_with (fail)
  refine (one_any s W).mono ?_
  rintro e W1 ⟨v1, rfl, hv1, hb1⟩
  go_wp2_with (fail)
  refine (unpack_any s v1 _ W1 hv1 (by intro w hw; rw [(List.mem_replicate.1 hw).2]; decide) (by simp; omega) (by omega)).mono ?_
  rintro e W2 ⟨ov, rfl, hown, hb⟩
  have he1 := one_err s (8 * min s.size 65536) (by omega)
  have hown1 := hown he1
  rw [he1]
  have hb2 := hb1.trans (hb.mono hb1.size)
  clear hown he1 hb hb1 hv1
  go_wp2_with (fail)
  refine (one_any t W2).mono ?_
  rintro e W3 ⟨v2, rfl, hv2, hb⟩
  have hb3 := hb2.trans (hb.mono hb2.size)
  have hs1 : SliceAt W2 1 ov (((unpackVals s 0 (List.replicate (8 * min s.size 65536) 1)).map Int.ofNat).map fun x => [Value.int .u64 x]) := by
    rw [List.map_map]
    exact own_slice (f := fun n : Nat => Value.int .u64 (n : Int)) (by rw [unpackVals_len]) hown1
  have hs2 := hs1.below (Nat.le_refl _) hb
  clear hs1 hb hown1 hb2
  go_wp2_with (fail)
  refine (unpack_any t v2 _ W3 hv2 (by intro w hw; rw [(List.mem_replicate.1 hw).2]; decide) (by simp; omega) (by omega)).mono ?_
  rintro e W4 ⟨ov2, rfl, hown, hb⟩
  have he1 := one_err t (8 * min t.size 65536) (by omega)
  have hown1 := hown he1
  rw [he1]
  have hb4 := hb3.trans (hb.mono hb3.size)
  have hs3 := hs2.below (Nat.le_refl _) hb
  have hs4 : SliceAt W4 1 ov2 (((unpackVals t 0 (List.replicate (8 * min t.size 65536) 1)).map Int.ofNat).map fun x => [Value.int .u64 x]) := by
    rw [List.map_map]
    exact own_slice (f := fun n : Nat => Value.int .u64 (n : Int)) (by rw [unpackVals_len]) hown1
  have hl1 : ((unpackVals s 0 (List.replicate (8 * min s.size 65536) 1)).map Int.ofNat).length ≤ 1000000000000000 := by
    rw [List.length_map, unpackVals_len, List.length_replicate]; omega
  have hl2 : ((unpackVals t 0 (List.replicate (8 * min t.size 65536) 1)).map Int.ofNat).length ≤ 1000000000000000 := by
    rw [List.length_map, unpackVals_len, List.length_replicate]; omega
  have hq := fun (h1 : s.size ≤ 65536) (h2 : t.size ≤ 65536) => one_plain s t h1 h2
  have hinj : ∀ a b : List Nat, a.map Int.ofNat = b.map Int.ofNat ↔ a = b := fun a b => by
    constructor
    · intro h; exact (List.map_inj_right (f := Int.ofNat) (fun x y h => Int.ofNat.inj h)).1 h
    · rintro rfl; rfl
  have hq2 : Hid (s.size ≤ 65536 → t.size ≤ 65536 → (((unpackVals s 0 (List.replicate (8 * min s.size 65536) 1)).map Int.ofNat) = ((unpackVals t 0 (List.replicate (8 * min t.size 65536) 1)).map Int.ofNat) ↔ s = t)) := fun h1 h2 => (hinj _ _).trans (hq h1 h2)
  clear hq hinj hs2 hb3 hb hown hown1 he1 hv2
  generalize (unpackVals s 0 (List.replicate (8 * min s.size 65536) 1)).map Int.ofNat = X at hs3 hl1 hq2
  generalize (unpackVals t 0 (List.replicate (8 * min t.size 65536) 1)).map Int.ofNat = Y at hs4 hl2 hq2
  by_cases h1 : (65536 : Int) < (s.size : Int)
  · go_wp2_with (fail)
    go_ret
    exact ⟨rfl, hb4⟩
  · by_cases h2 : (65536 : Int) < (t.size : Int)
    · go_wp2_with (fail)
      go_ret
      exact ⟨rfl, hb4⟩
    · have hq3 := hq2.out (by omega) (by omega)
      obtain ⟨c, hc⟩ : ∃ c, c = (s.toList == t.toList) := ⟨_, rfl⟩
      have htl : s.toList = t.toList ↔ s = t := by
        constructor
        · intro h
          rw [Lib.toList_data, Lib.toList_data] at h
          exact ByteArray.ext (Array.toList_inj.1 h)
        · rintro rfl; rfl
      have hd : decide (X = Y) = c := by
        rw [hc]
        by_cases e : s = t
        · rw [decide_eq_true (hq3.2 e), htl.2 e]; simp
        · rw [decide_eq_false (fun h => e (hq3.1 h))]
          symm
          rw [beq_eq_false_iff_ne]
          exact fun h => e (htl.1 h)
      clear htl
      have HC := Lib.hid hc
      have HD := Lib.hid hd
      clear hc hd hq3 hq2
      go_wp2_with (fail)
      refine (equal_any ov ov2 X Y W4 hs3 hs4 hl1 hl2).mono ?_
      rintro e W5 ⟨rfl, hgr⟩
      have hb5 := below_ext hb4 hgr
      rw [HD.out]
      clear hs3 hs4 hgr hb4
      go_wp2_with (fail)
      go_ret
      exact ⟨ret_bool (by rw [← HC.out]; simp), hb5⟩
end Go.Proofs.Ytjeocmkdekdlnaa.lawBitsOne
