/-
  BitsBack: the plain law, and the walk.
-/
import Derived.Test.YtjeocmkdekdlnaaWidths
namespace Go.Proofs.Ytjeocmkdekdlnaa.lawBitsBack
open Go.RowKit kit Go.Proofs.Ytjeocmkdekdlnaa.bits
set_option linter.unusedVariables false

theorem widths_ok (l : List (Int × Int)) (h : firstErr l = 0) (hp : ∀ p ∈ l, 0 ≤ p.1) : widthErr (l.map (·.2)) = false ∧ wtotal (l.map (·.2)) = total l := by
  induction l with
  | nil => exact ⟨rfl, rfl⟩
  | cons p l ih =>
    have h1 := firstErr_mem h (List.mem_cons_self)
    obtain ⟨p1, p2⟩ := p
    have h0 := hp _ (List.mem_cons_self)
    obtain ⟨v, rfl⟩ : ∃ v : Nat, p1 = (v : Int) := ⟨p1.toNat, by simp only at h0; omega⟩
    obtain ⟨n, rfl, h64, _⟩ := pieceErr_ok h1
    unfold firstErr at h
    rw [if_pos h1] at h
    have := ih h (fun q hq => hp q (List.mem_cons_of_mem _ hq))
    rw [List.map_cons, widthErr, if_neg (by omega), wtotal, total, this.2]
    exact ⟨this.1, rfl⟩

theorem vals_ok (s : ByteArray) (l : List (Int × Int)) (at0 : Nat) (h : firstErr l = 0) (hp : ∀ p ∈ l, 0 ≤ p.1) (hN : leN s.data.toList / 2 ^ at0 % 2 ^ total l = packN l) :
    unpackVals s at0 (l.map (·.2)) = l.map (·.1.toNat) := by
  induction l generalizing at0 with
  | nil => rfl
  | cons p l ih =>
    have h1 := firstErr_mem h (List.mem_cons_self)
    obtain ⟨p1, p2⟩ := p
    have h0 := hp _ (List.mem_cons_self)
    obtain ⟨v, rfl⟩ : ∃ v : Nat, p1 = (v : Int) := ⟨p1.toNat, by simp only at h0; omega⟩
    obtain ⟨n, rfl, h64, hv⟩ := pieceErr_ok h1
    unfold firstErr at h
    rw [if_pos h1] at h
    have hp' := fun q hq => hp q (List.mem_cons_of_mem _ hq)
    rw [total, packN] at hN
    simp only [Int.toNat_natCast] at hN
    have hlt := packN_lt l hp' h
    have e1 : nextV s at0 n = v := by
      unfold nextV
      have := congrArg (· % 2 ^ n) hN
      simp only [Nat.pow_add, Nat.mod_mul_right_mod] at this
      rw [this, Nat.add_mul_mod_self_left, Nat.mod_eq_of_lt hv]
    have e2 : leN s.data.toList / 2 ^ (at0 + n) % 2 ^ total l = packN l := by
      have := congrArg (· / 2 ^ n) hN
      rw [Nat.pow_add, Nat.mod_mul_right_div_self, Nat.add_mul_div_left _ _ (Nat.two_pow_pos _), Nat.div_eq_of_lt hv, Nat.zero_add] at this
      rw [Nat.pow_add, ← Nat.div_div_eq_div_mul, this]
    rw [List.map_cons, List.map_cons, unpackVals]
    simp only [Int.toNat_natCast]
    rw [e1, ih (at0 + n) h hp' e2]

theorem back (l : List (Int × Int)) (hp : ∀ p ∈ l, 0 ≤ p.1) (h : packErr l = 0) (s : ByteArray) (more : List UInt8) (hs : s.data.toList = packB l ++ more) :
    unpackErr s (l.map (·.2)) = 0 ∧ unpackVals s 0 (l.map (·.2)) = l.map (·.1.toNat) := by
  have hf : firstErr l = 0 := by
    unfold packErr at h
    split at h
    · rename_i h1; exact absurd h h1
    · rename_i h1; omega
  have hlen : (packB l).length = (total l + 7) / 8 := toLE_len _ _
  have hsz : s.size = (packB l).length + more.length := by rw [Lib.size_eq, hs, List.length_append]
  obtain ⟨h1, h2⟩ := widths_ok l hf hp
  refine ⟨?_, ?_⟩
  · rw [unpackErr, h1, h2, if_neg (by simp), if_neg (by omega)]
  · apply vals_ok s l 0 hf hp
    have hlt := packN_lt l hp hf
    have e : 256 ^ ((total l + 7) / 8) = 2 ^ total l * 2 ^ (8 * ((total l + 7) / 8) - total l) := by
      rw [← Nat.pow_add, show total l + (8 * ((total l + 7) / 8) - total l) = 8 * ((total l + 7) / 8) from by omega, Nat.pow_mul]
    rw [hs, leN_append, hlen, packB, leN_toLE, Nat.pow_zero, Nat.div_one, e, Nat.mul_assoc, Nat.add_mul_mod_self_left, Nat.mod_mul_right_mod, Nat.mod_eq_of_lt hlt]

set_option maxRecDepth 100000 in
theorem walk (W : World) (v : Value) (xs : List (Int × Int)) (hs : SliceAt W 2 v (xs.map fun p : Int × Int => [Value.int .u64 p.1, Value.int .i64 p.2])) (hg : ∀ p ∈ xs, (Lit.int .u64 p.1).wf = true ∧ (Lit.int .i64 p.2).wf = true) (hn : xs.length * Try.prog.bytesOf 60 ≤ reachBytes) (more : ByteArray) (hm : more.size ≤ reachBytes) :
    Calls Try.prog 14 #[v, .string more] W fun e w' => e = .returned (.bool true) ∧ Below W.heap.size W w' := by
  have hr : reachBytes = 140737488351232 := rfl
  have hby : Try.prog.bytesOf 60 = 16 := by kernel_rfl
  rw [hr] at hn hm
  rw [hby] at hn
  clear hr hby
  have hgp : ∀ p ∈ xs, 0 ≤ p.1 := fun p hp => by obtain ⟨n, h, _⟩ := u64_nat (hg p hp).1; omega
  go_enter Try.func14, Try.ntmps14
  go_wp2_with (fail)
  have hs1 : SliceAt (W.alloc (Obj.cells #[Value.int .u64 1, Value.int .i64 1, Value.int .u64 5, Value.int .i64 8] 60)) 2 (.slice (some ⟨W.heap.size, 0, none⟩) 2 2) ([((1 : Int), (1 : Int)), (5, 8)].map rowP) := by
    refine .inr ⟨W.heap.size, 0, 2, rfl, by decide, by decide, by decide, by simp, ?_⟩
    intro i r hr
    have hi : i < 2 := by have := (List.getElem?_eq_some_iff.1 hr).1; simpa using this
    match i, hi with
    | 0, _ =>
      simp [rowP] at hr; subst hr
      refine ⟨rfl, fun j x hx => cell_new rfl ?_⟩
      match j, hx with
      | 0, hx => simpa using hx
      | 1, hx => simpa using hx
    | 1, _ =>
      simp [rowP] at hr; subst hr
      refine ⟨rfl, fun j x hx => cell_new rfl ?_⟩
      match j, hx with
      | 0, hx => simpa using hx
      | 1, hx => simpa using hx
  have hb0 := (Below.refl W.heap.size W).alloc (Nat.le_refl _) (Obj.cells #[Value.int .u64 1, Value.int .i64 1, Value.int .u64 5, Value.int .i64 8] 60)
  have hS : packS [((1 : Int), (1 : Int)), (5, 8)] = ⟨#[11, 0]⟩ := by rfl
  have hE : packErr [((1 : Int), (1 : Int)), (5, 8)] = 0 := by rfl
  generalize W.alloc (Obj.cells #[Value.int .u64 1, Value.int .i64 1, Value.int .u64 5, Value.int .i64 8] 60) = W1 at hs1 hb0 ⊢
  refine (pack_any _ _ W1 hs1 (by intro p hp; simp at hp; rcases hp with rfl | rfl <;> exact ⟨by decide, by decide⟩) (by decide)).mono ?_
  rintro e W2 ⟨rfl, hb⟩
  have hb2 := hb0.trans (hb.mono hb0.size)
  rw [hS, hE]
  clear hb hb0 hs1 hS hE
  go_wp2_with (fail)
  refine (pack_any v xs W2 (hs.below (Nat.le_refl _) hb2) hg (by omega)).mono ?_
  rintro e W3 ⟨rfl, hb⟩
  have hb3 := hb2.trans (hb.mono hb2.size)
  clear hb hb2
  by_cases hE : packErr xs = 0
  · have hL : (packS xs).data.toList = packB xs := by rw [packS, if_pos hE]
    have hlen : (packS xs).size ≤ 8192 := by
      rw [Lib.size_eq, hL, packB, toLE_len]
      have h2 := hE
      unfold packErr at h2
      split at h2
      · rename_i h1; exact absurd h2 h1
      · split at h2
        · cases h2
        · omega
    obtain ⟨hu, hv⟩ := back xs hgp hE (packS xs ++ more) more.data.toList (by simp [hL])
    have HU := Lib.hid hu
    have HV := Lib.hid hv
    rw [hE]
    generalize packS xs = S at hlen HU HV ⊢
    clear hu hv hL hE
    go_wp2_with (fail)
    refine (widths_any v xs W3 (hs.below (Nat.le_refl _) hb3) (by omega)).mono ?_
    rintro e W4 ⟨wv, vv, rfl, hwv, hvv, hb⟩
    have hb4 := hb3.trans (hb.mono hb3.size)
    clear hb hb3
    go_wp2_with (fail)
    have hwv' : SliceAt W4 1 wv ((xs.map (·.2)).map rowI) := by rw [List.map_map]; exact hwv
    refine (unpack_any (S ++ more) wv (xs.map (·.2)) W4 hwv' (by intro w hw; obtain ⟨p, hp, rfl⟩ := List.mem_map.1 hw; exact (hg p hp).2) (by simp; omega) (by rw [ByteArray.size_append]; omega)).mono ?_
    rintro e W5 ⟨ov, rfl, hown, hb⟩
    have hown1 := hown HU.out
    rw [HV.out] at hown1
    rw [HU.out]
    have hvv2 : SliceAt W5 1 vv ((xs.map (·.1)).map fun x => [Value.int .u64 x]) := by
      have := hvv.below (Nat.le_refl _) hb
      rw [List.map_map]; exact this
    have hb5 := hb4.trans (hb.mono hb4.size)
    have hov : SliceAt W5 1 ov ((xs.map (·.1)).map fun x => [Value.int .u64 x]) := by
      have e1 : u64Cells (xs.map (·.1.toNat)) = (xs.map (·.1)).map (fun x => Value.int .u64 x) := by
        unfold u64Cells
        rw [List.map_map, List.map_map]
        apply List.map_congr_left
        intro p hp
        show Value.int .u64 ((p.1.toNat : Nat) : Int) = Value.int .u64 p.1
        rw [Int.toNat_of_nonneg (hgp p hp)]
      rw [e1] at hown1
      exact own_slice (by simp) hown1
    clear hown hown1 hb hb4 hwv hwv' hvv
    go_wp2_with (fail)
    refine (equal_any ov vv _ _ W5 hov hvv2 (by simp; omega) (by simp; omega)).mono ?_
    rintro e W6 ⟨rfl, hgr⟩
    have hb6 := below_ext hb5 hgr
    simp only [decide_true]
    clear hb5 hgr hov hvv2
    go_wp2_with (fail)
    go_ret
    exact ⟨rfl, hb6⟩
  · have hE' : (packErr xs : Int) ≠ 0 := by omega
    have hS : packS xs = ⟨#[]⟩ := by rw [packS, if_neg hE]
    rw [hS]
    clear hS hE
    go_wp2_with (fail)
    go_ret
    exact ⟨rfl, hb3⟩
end Go.Proofs.Ytjeocmkdekdlnaa.lawBitsBack
