/-
  RunsBack: the plain law, and the walk.
-/
import Derived.Test.YtjfcoccfkkghaaaRunsRead
import Derived.Test.YtjfcoccfkkghaaaEqualInt
import Derived.Test.YtjfcoccfkkghaaaGetPut
import Derived.Test.YtjfcoccfkkghaaaWalkRunsShort
namespace Go.Proofs.Ytjfcoccfkkghaaa.lawRunsBack
open Go.RowKit kit put get Go.Proofs.Ytjfcoccfkkghaaa.runs
set_option linter.unusedVariables false

theorem lead_take : ∀ (c : Nat) (x : Int) (l : List Int), l.take (lead c x l) = List.replicate (lead c x l) x
  | 0, _, l => by simp [lead]
  | _ + 1, _, [] => by simp [lead]
  | c + 1, x, y :: l => by
    rw [lead]
    split
    · rename_i h
      subst h
      rw [List.take_succ_cons, lead_take c y l, List.replicate_succ]
    · simp
theorem lead_head : ∀ (c : Nat) (x : Int) (l : List Int), lead c x l < c → ∀ r, l.drop (lead c x l) ≠ x :: r
  | 0, _, _, h => by omega
  | _ + 1, _, [], _ => by simp
  | c + 1, x, y :: l, h => by
    rw [lead] at h ⊢
    split at h
    · rename_i hy
      rw [if_pos hy, List.drop_succ_cons]
      exact lead_head c x l (by omega)
    · rename_i hy
      rw [if_neg hy, List.drop_zero]
      intro r e
      exact hy (List.cons.inj e).1

theorem byte_parts (x : Int) (L : Nat) (hx : 0 ≤ x ∧ x ≤ 15) (hL : L ≤ 15) : (UInt8.ofNat (x.toNat * 16 + L)).toNat % 16 = L ∧ (((UInt8.ofNat (x.toNat * 16 + L)).toNat / 16 : Nat) : Int) = x := by
  have e : (UInt8.ofNat (x.toNat * 16 + L)).toNat = x.toNat * 16 + L := by simp; omega
  rw [e]
  omega

/-- what was written is read, whatever stands behind -/
theorem readF_wF : ∀ (f : Nat) (l : List Int) (more : List UInt8) (n k : Nat) (last : UInt8), l.length ≤ f → n = k + l.length → (∀ x ∈ l, 0 ≤ x ∧ x ≤ 15) →
    (k = 0 ∨ last.toNat % 16 = 15 ∨ ∀ r, l ≠ ((last.toNat / 16 : Nat) : Int) :: r) → readF (wF f l ++ more) n k last = (l, (wF f l).length, 0)
  | f, [], more, n, k, last, _, hn, _, _ => by
    rw [readF_stop _ _ _ _ (by simp at hn; omega)]
    cases f <;> rfl
  | 0, x :: l, more, n, k, last, h, _, _, _ => by simp at h
  | f + 1, x :: l, more, n, k, last, h, hn, hx, hc => by
    have h2 := lead_len 15 x l
    have hx0 := hx x (List.mem_cons_self)
    obtain ⟨e1, e2⟩ := byte_parts x (lead 15 x l) hx0 h2.2
    rw [wF, List.cons_append]
    simp only [List.length_cons] at h hn
    have ih := readF_wF f (l.drop (lead 15 x l)) more n (k + (lead 15 x l + 1)) (UInt8.ofNat (x.toNat * 16 + lead 15 x l)) (by simp; omega) (by simp; omega) (fun y hy => hx y (List.mem_cons_of_mem _ (List.mem_of_mem_drop hy))) (by
      by_cases hl : lead 15 x l < 15
      · right; right
        rw [e2]
        exact lead_head 15 x l hl
      · right; left
        rw [e1]; omega)
    rw [readF_more _ _ _ _ _ (by omega) (by
      rw [e1]
      rintro (hb | ⟨hb1, hb2, hb3⟩)
      · omega
      · rcases hc with hc | hc | hc
        · omega
        · exact hb3 hc
        · exact hc l (by rw [← hb2, e2]))]
    rw [e1, ih, if_pos rfl, e2]
    simp only [Prod.mk.injEq, List.length_cons, and_true]
    have e3 : List.replicate (lead 15 x l) x ++ l.drop (lead 15 x l) = l := by rw [← lead_take 15 x l]; exact List.take_append_drop _ _
    rw [List.replicate_succ, List.cons_append, e3]

theorem read_write (l : List Int) (h : writeErr l = 0) (more : List UInt8) : readB (writeB l ++ more) = (l, (writeB l).length, 0) := by
  have hl : l.length ≤ 320 := by
    unfold writeErr at h
    split at h
    · cases h
    · omega
  have hbad : badX l = false := by
    unfold writeErr at h
    rw [if_neg (by omega)] at h
    cases hb : badX l with
    | false => rfl
    | true => rw [hb] at h; simp at h
  have h1 := readF_wF l.length l more l.length 0 255 (Nat.le_refl _) (by omega) (fun x hx => badX_mem hbad hx) (.inl rfl)
  unfold readB writeB
  rw [List.append_assoc, getB_put l.length _ (by omega)]
  simp only [ne_eq, not_true_eq_false, if_false]
  rw [if_neg (by omega), List.drop_left, h1]
  simp
  omega

set_option maxHeartbeats 1000000 in
set_option maxRecDepth 100000 in
theorem walk (W : World) (v : Value) (xs : List Int) (hs : SliceAt W 1 v (xs.map fun z : Int => [Value.int .i64 z])) (hg : ∀ z ∈ xs, (Lit.int .i64 z).wf = true) (hn : xs.length * Try.prog.bytesOf 3 ≤ reachBytes) (more : ByteArray) (hm : more.size ≤ reachBytes) :
    Calls Try.prog 10 #[v, .string more] W fun e w' => e = .returned (.bool true) ∧ Below W.heap.size W w' := by
  have hr : reachBytes = 140737488351232 := rfl
  have hby : Try.prog.bytesOf 3 = 8 := by kernel_rfl
  rw [hr] at hn hm
  rw [hby] at hn
  clear hr hby
  go_enter Try.func10, Try.ntmps10
  go_wp2_with (fail)
  have hs1 : SliceAt (W.alloc (Obj.cells #[Value.int .i64 4, Value.int .i64 4, Value.int .i64 0] 3)) 1 (.slice (some ⟨W.heap.size, 0, none⟩) 3 3) ([(4 : Int), 4, 0].map rowI) := by
    refine .inr ⟨W.heap.size, 0, 3, rfl, by decide, by decide, by decide, by simp, ?_⟩
    intro i r hr
    have hi : i < 3 := by have := (List.getElem?_eq_some_iff.1 hr).1; simpa using this
    match i, hi with
    | 0, _ => simp [rowI] at hr; subst hr; exact ⟨rfl, fun j x hx => cell_new rfl (by match j, hx with | 0, hx => simpa using hx)⟩
    | 1, _ => simp [rowI] at hr; subst hr; exact ⟨rfl, fun j x hx => cell_new rfl (by match j, hx with | 0, hx => simpa using hx)⟩
    | 2, _ => simp [rowI] at hr; subst hr; exact ⟨rfl, fun j x hx => cell_new rfl (by match j, hx with | 0, hx => simpa using hx)⟩
  have hb0 := (Below.refl W.heap.size W).alloc (Nat.le_refl _) (Obj.cells #[Value.int .i64 4, Value.int .i64 4, Value.int .i64 0] 3)
  have hS0 : writeS [4, 4, 0] = ⟨#[3, 65, 0]⟩ := by rfl
  have hE0 : writeErr [4, 4, 0] = 0 := by rfl
  generalize W.alloc (Obj.cells #[Value.int .i64 4, Value.int .i64 4, Value.int .i64 0] 3) = W1 at hs1 hb0 ⊢
  refine (write_any _ _ W1 hs1 (by intro p hp; simp at hp; rcases hp with rfl | rfl <;> decide) (by decide)).mono ?_
  rintro e W2 ⟨rfl, hb⟩
  have hb2 := hb0.trans (hb.mono hb0.size)
  rw [hS0, hE0]
  clear hb hb0 hs1 hS0 hE0
  go_wp2_with (fail)
  refine (write_any v xs W2 (hs.below (Nat.le_refl _) hb2) hg (by omega)).mono ?_
  rintro e W3 ⟨rfl, hb⟩
  have hb3 := hb2.trans (hb.mono hb2.size)
  clear hb hb2
  by_cases hE : writeErr xs = 0
  · have hL : (writeS xs).data.toList = writeB xs := by rw [writeS, if_pos hE]
    have hl3 : xs.length ≤ 320 := by
      have h := hE
      unfold writeErr at h
      split at h
      · cases h
      · omega
    have hlen : (writeS xs).size ≤ 400 := by have := (lawRunsShort.short xs hE).2; omega
    have hrw : readB ((writeS xs) ++ more).data.toList = (xs, (writeS xs).size, 0) := by
      rw [show ((writeS xs) ++ more).data.toList = writeB xs ++ more.data.toList from by simp [hL], read_write xs hE, Lib.size_eq, hL]
    have HR := Lib.hid hrw
    rw [hE]
    generalize writeS xs = S at hlen HR ⊢
    clear hL hrw hE
    go_wp2_with (fail)
    refine (read_any (S ++ more) (by rw [ByteArray.size_append]; omega) W3).mono ?_
    rintro e W4 ⟨ov, rfl, hown, hb⟩
    rw [HR.out] at hown
    rw [HR.out]
    have hb4 := hb3.trans (hb.mono hb3.size)
    have h1 := own_slice (f := fun x : Int => Value.int .i64 x) rfl hown
    have h2 := (hs.below (Nat.le_refl _) hb3).below (Nat.le_refl _) hb
    clear hown hb hb3 HR
    go_wp2_with (fail)
    refine (eqint.equal_any v ov xs xs W4 h2 h1 (by omega) (by omega)).mono ?_
    rintro e W5 ⟨rfl, hgr⟩
    have hb5 := below_ext hb4 hgr
    simp only [decide_true]
    clear h1 h2 hgr hb4
    go_wp2_with (fail)
    go_ret
    exact ⟨ret_bool (by simp), hb5⟩
  · have hE' : (writeErr xs : Int) ≠ 0 := by omega
    have hS : writeS xs = ⟨#[]⟩ := by rw [writeS, if_neg hE]
    rw [hS]
    clear hS hE
    go_wp2_with (fail)
    go_ret
    exact ⟨rfl, hb3⟩
end Go.Proofs.Ytjfcoccfkkghaaa.lawRunsBack
