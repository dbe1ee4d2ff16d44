/-
  RunsShort: the plain law, and the walk.
-/
import Derived.Test.YtjfcoccfkkghaaaRuns
import Derived.Deep.OwnRows
namespace Go.Proofs.Ytjfcoccfkkghaaa.lawRunsShort
open Go.RowKit kit put Go.Proofs.Ytjfcoccfkkghaaa.runs
set_option linter.unusedVariables false

/-- how often another element begins -/
def tn : Option Int → List Int → Nat
  | _, [] => 0
  | p, x :: l => (if p = some x then 0 else 1) + tn (some x) l

theorem tn_none (x : Int) (l : List Int) : tn none l ≤ tn (some x) l + 1 ∧ tn (some x) l ≤ tn none l := by
  cases l with
  | nil => simp [tn]
  | cons y l =>
    rw [tn, tn]
    simp only [reduceCtorEq, if_false]
    split <;> omega
theorem tn_lead : ∀ (c : Nat) (x : Int) (l : List Int), tn (some x) l = tn (some x) (l.drop (lead c x l))
  | 0, _, l => by simp [lead]
  | _ + 1, _, [] => by simp
  | c + 1, x, y :: l => by
    rw [lead]
    split
    · rename_i h
      subst h
      rw [List.drop_succ_cons, ← tn_lead c y l, tn, if_pos rfl, Nat.zero_add]
    · rw [List.drop_zero]
theorem tn_stop : ∀ (c : Nat) (x : Int) (l : List Int), lead c x l < c → tn none (l.drop (lead c x l)) = tn (some x) (l.drop (lead c x l))
  | 0, _, _, h => by omega
  | _ + 1, _, [], _ => by simp [tn]
  | c + 1, x, y :: l, h => by
    rw [lead] at h ⊢
    split at h
    · rename_i hy
      rw [if_pos hy, List.drop_succ_cons]
      exact tn_stop c x l (by omega)
    · rename_i hy
      rw [if_neg hy, List.drop_zero, tn, tn, if_neg (by simp), if_neg (by simpa using fun e => hy e.symm)]
theorem wF_short : ∀ (f : Nat) (l : List Int), (wF f l).length ≤ tn none l + l.length / 16 ∧ (wF f l).length ≤ l.length
  | 0, l => by simp [wF]
  | f + 1, [] => by simp [wF]
  | f + 1, x :: l => by
    rw [wF, List.length_cons, List.length_cons, tn, if_neg (by simp)]
    have ih := wF_short f (l.drop (lead 15 x l))
    have h1 := tn_lead 15 x l
    have h2 := lead_len 15 x l
    have h3 := tn_none x (l.drop (lead 15 x l))
    have h4 := tn_stop 15 x l
    rw [List.length_drop] at ih
    by_cases h : lead 15 x l < 15
    · have h5 := h4 h
      omega
    · have h6 : lead 15 x l = 15 := by omega
      rw [h6] at ih h1 h3 ⊢
      omega
theorem putB_two (n : Nat) (h : n ≤ 320) : (putB n).length ≤ 2 := by
  unfold putB
  by_cases h1 : n < 128
  · rw [putF_small 10 n h1]; simp
  · rw [putF_big 9 n h1, putF_small 9 (n / 128) (by omega)]; simp
theorem short (l : List Int) (h : writeErr l = 0) : (writeS l).size ≤ 2 + tn none l + l.length / 16 ∧ (writeS l).size ≤ 2 + l.length := by
  have hl : l.length ≤ 320 := by
    unfold writeErr at h
    split at h
    · cases h
    · omega
  rw [writeS, if_pos h, size_mk, writeB, List.length_append]
  have h1 := putB_two l.length hl
  have h2 := wF_short l.length l
  omega

theorem tn_snoc (a : List Int) (y x : Int) : ∀ p, tn p (a ++ [y] ++ [x]) = tn p (a ++ [y]) + (if x = y then 0 else 1) := by
  induction a with
  | nil =>
    intro p
    simp only [List.nil_append, List.cons_append, tn, Option.some.injEq, Nat.add_zero]
    by_cases h : x = y
    · subst h; simp only [if_true, Nat.add_zero]
    · have h' : ¬ y = x := fun e => h e.symm
      simp only [h, h', if_false]
  | cons z a ih =>
    intro p
    rw [List.cons_append, List.cons_append, tn, tn, ih (some z), Nat.add_assoc]
theorem tn_first {xs : List Int} {x : Int} (h : xs[0]? = some x) : tn none (xs.take (0 + 1)) = 1 := by
  rw [take_one h]; simp [tn]
theorem tn_next {xs : List Int} {k : Nat} {x y : Int} (h : xs[k + 1]? = some x) (hy : xs[k]? = some y) : tn none (xs.take (k + 1 + 1)) = tn none (xs.take (k + 1)) + (if x = y then 0 else 1) := by
  rw [take_one h, take_one hy, tn_snoc]
theorem tn_le (l : List Int) : ∀ p, tn p l ≤ l.length := by
  induction l with
  | nil => intro p; simp [tn]
  | cons x l ih => intro p; rw [tn]; have := ih (some x); simp; split <;> omega

set_option maxHeartbeats 1000000 in
set_option maxRecDepth 100000 in
theorem walk (W : World) (v : Value) (xs : List Int) (hs : SliceAt W 1 v (xs.map fun z : Int => [Value.int .i64 z])) (hg : ∀ z ∈ xs, (Lit.int .i64 z).wf = true) (hn : xs.length * Try.prog.bytesOf 3 ≤ reachBytes) :
    Calls Try.prog 3 #[v] W fun e w' => e = .returned (.bool true) ∧ Below W.heap.size W w' := by
  have hr : reachBytes = 140737488351232 := rfl
  have hby : Try.prog.bytesOf 3 = 8 := by kernel_rfl
  rw [hr, hby] at hn
  clear hr hby
  obtain ⟨q, cap, b, off, rfl, hq, hc⟩ := hs.view
  have hlen : (xs.map fun z : Int => [Value.int .i64 z]).length = xs.length := by simp
  rw [hlen] at hs hq ⊢
  have HQ := Lib.hid hq
  have HC : Hid (∀ k x, xs[k]? = some x → W.cell? ⟨b, off + k, none⟩ = some (.int .i64 x)) := fun k p hx => by
    have := hc k _ (by rw [List.getElem?_map, hx]; rfl) 0 _ rfl
    simpa [Nat.mul_one] using this
  clear hq hc hlen
  have infoI : (Try.prog.info? 3).map (fun i => (i.zero, i.size, i.bytes)) = some (some (.int .i64 0), 1, 8) := by kernel_rfl
  have hmk : ∀ w : World, (Instr.makeSlice 22 (.int .i64 320) (.int .i64 320)).run Try.prog w = .ok (.slice (some ⟨w.heap.size, 0, none⟩) 320 320) (w.alloc (.cells (madeCells #[Value.int .i64 0] 320) 3)) := fun w => run_make_row' 22 3 (.int .i64 0) 8 Try.underlying22 infoI rfl .i64 .i64 320 (by omega) (by omega) w
  clear infoI
  go_enter Try.func3, Try.ntmps3
  go_wp2_with (fail)
  have hrow := World.rowIs_made W (.int .i64 0) 320 3
  have hb0 := (Below.refl W.heap.size W).alloc (Nat.le_refl _) (Obj.cells (madeCells #[Value.int .i64 0] 320) 3)
  generalize W.alloc (Obj.cells (madeCells #[Value.int .i64 0] 320) 3) = W1 at hrow hb0 ⊢
  have hsl : SliceAt W1 1 (.slice (some ⟨W.heap.size, 0, none⟩) 320 320) ((List.replicate 320 (0 : Int)).map rowI) := by
    right
    refine ⟨W.heap.size, 0, 320, by simp, by simp, by unfold maxLen; omega, by simp, hrow.lt, ?_⟩
    intro i r hi
    rw [List.getElem?_map] at hi
    obtain ⟨x, hx, rfl⟩ := Option.map_eq_some_iff.1 hi
    have hil : i < 320 := by have := (List.getElem?_eq_some_iff.1 hx).1; simpa using this
    rw [List.getElem?_replicate, if_pos hil] at hx
    have hx1 := Option.some.inj hx
    subst hx1
    refine ⟨rfl, fun j y hy => ?_⟩
    have hj : j = 0 := by have := (List.getElem?_eq_some_iff.1 hy).1; simp [rowI] at this; omega
    subst hj
    have hy1 := Option.some.inj hy
    subst hy1
    have := hrow.cell hil
    simpa using this
  have hE0 : writeErr (List.replicate 320 0) = 0 := by decide
  have hS0 : (writeS (List.replicate 320 0)).size = 22 := by rw [writeS, if_pos hE0, size_mk]; decide
  refine (write_any _ _ W1 hsl (by intro x hx; rw [(List.mem_replicate.1 hx).2]; decide) (by simp)).mono ?_
  rintro e W2 ⟨rfl, hb⟩
  have hb2 := hb0.trans (hb.mono hb0.size)
  rw [hE0]
  generalize writeS (List.replicate 320 0) = S0 at hS0 ⊢
  have hS1 : (S0.size : Int) = 22 := by omega
  clear hE0 hS0 hb hb0 hsl hrow hmk
  go_wp2_with (fail)
  refine (write_any _ xs W2 (hs.below (Nat.le_refl _) hb2) hg (by omega)).mono ?_
  rintro e W3 ⟨rfl, hb⟩
  have hb3 := hb2.trans (hb.mono hb2.size)
  clear hb hb2
  by_cases hE : writeErr xs = 0
  · obtain ⟨h1, h2⟩ := short xs hE
    rw [hE]
    obtain ⟨S, hS⟩ : ∃ S, S = writeS xs := ⟨_, rfl⟩
    rw [← hS] at h1 h2 ⊢
    clear hS hE hs
    go_wp2_with (fail)
    go_loopw [7, 32] (fun tv y wr => ∃ k : Nat, k ≤ xs.length ∧ y = .int .i64 k ∧ tv = .int .i64 (tn none (xs.take k) : Int) ∧ Below W.heap.size W wr) (fun _ y _ => xs.length - (intOf y).toNat)
    case atStart => exact ⟨0, Nat.zero_le _, rfl, rfl, hb3⟩
    case round =>
      obtain ⟨k, hk, rfl, rfl, hb4⟩ := hrel
      have htl := tn_le (xs.take k) none
      have htk : (xs.take k).length ≤ k := by rw [List.length_take]; omega
      by_cases hlt : k < xs.length
      · obtain ⟨rfl, hblk⟩ := HQ.out k hlt
        obtain ⟨x, hp⟩ : ∃ p, xs[k]? = some p := ⟨_, List.getElem?_eq_getElem hlt⟩
        have hltI : (k : Int) < (xs.length : Int) := by omega
        cases k with
        | zero =>
          have HT := Lib.hid (tn_first hp)
          rw [show tn none (List.take 0 xs) = 0 from by simp [tn]]
          clear hp htl htk
          go_wp2_with (fail)
          refine wp_region_below (by kernel_rfl) (by kernel_rfl) ?_
          repeat (go_big_quiet_step (fail))
          refine wpQuiet_nil ?_
          rintro _ ⟨wx, rfl⟩
          have hb5 := below_ext hb4 (grown_of_below wx.h)
          generalize wx.w = w5 at hb5 ⊢
          clear wx
          go_wp2_with (fail)
          exact ⟨⟨1, by omega, rfl, by rw [HT.out]; simp, hb5⟩, by show xs.length - ((1 : Int)).toNat < xs.length - ((0 : Int).toNat); simp; omega⟩
        | succ k =>
          obtain ⟨y, hy⟩ : ∃ p, xs[k]? = some p := ⟨_, List.getElem?_eq_getElem (by omega)⟩
          have HT := Lib.hid (tn_next hp hy)
          have c1 : ∀ x' : BW wr, x'.w.cell? ⟨b, off + (k + 1), none⟩ = some (.int .i64 x) := fun x' => ((hb4.trans (x'.h.mono hb4.size)).cell (p := ⟨b, off + (k + 1), none⟩) hblk).trans (HC.out _ _ hp)
          have c0 : ∀ x' : BW wr, x'.w.cell? ⟨b, off + k, none⟩ = some (.int .i64 y) := fun x' => ((hb4.trans (x'.h.mono hb4.size)).cell (p := ⟨b, off + k, none⟩) hblk).trans (HC.out _ _ hy)
          clear hp hy
          have hk0 : ((k : Int) + 1 == 0) = false := by simp; omega
          generalize htt : tn none (xs.take (k + 1)) = T at HT htl ⊢
          clear htt
          by_cases hxy : x = y
          · subst hxy
            go_wp2_with (fail)
            refine wp_region_below (by kernel_rfl) (by kernel_rfl) ?_
            repeat (go_big_quiet_step (fail))
            refine wpQuiet_nil ?_
            rintro _ ⟨wx, rfl⟩
            have hb5 := below_ext hb4 (grown_of_below wx.h)
            generalize wx.w = w5 at hb5 ⊢
            clear wx
            go_wp2_with (fail)
            exact ⟨⟨k + 1 + 1, by omega, by simp, by rw [HT.out]; simp, hb5⟩, by show xs.length - (((k : Int) + 1 + 1).toNat) < xs.length - (((k : Int) + 1).toNat); omega⟩
          · have hne : (x != y) = true := by simpa using hxy
            go_wp2_with (fail)
            refine wp_region_below (by kernel_rfl) (by kernel_rfl) ?_
            repeat (go_big_quiet_step (fail))
            refine wpQuiet_nil ?_
            rintro _ ⟨wx, rfl⟩
            have hb5 := below_ext hb4 (grown_of_below wx.h)
            generalize wx.w = w5 at hb5 ⊢
            clear wx
            go_wp2_with (fail)
            exact ⟨⟨k + 1 + 1, by omega, by simp, by rw [HT.out, if_neg hxy]; simp, hb5⟩, by show xs.length - (((k : Int) + 1 + 1).toNat) < xs.length - (((k : Int) + 1).toNat); omega⟩
      · have hke : k = xs.length := by omega
        subst hke
        rw [List.take_length] at htl ⊢
        have h1I : (S.size : Int) ≤ 2 + (tn none xs : Int) + (xs.length : Int) / 16 := by omega
        have h2I : (S.size : Int) ≤ 2 + (xs.length : Int) := by omega
        generalize tn none xs = T at h1I htl ⊢
        clear h1
        go_wp2_with (fail)
        go_ret
        exact ⟨rfl, hb4⟩
  · have hE' : (writeErr xs : Int) ≠ 0 := by omega
    have hS : writeS xs = ⟨#[]⟩ := by rw [writeS, if_neg hE]
    rw [hS]
    clear hS hE
    go_wp2_with (fail)
    go_ret
    exact ⟨rfl, hb3⟩
end Go.Proofs.Ytjfcoccfkkghaaa.lawRunsShort
