/-
  RunsOne: the plain law, and the walk.
-/
import Derived.Test.YtjfcoccfkkghaaaRunsRead
import Derived.Test.YtjfcoccfkkghaaaEqualInt
namespace Go.Proofs.Ytjfcoccfkkghaaa.lawRunsOne
open Go.RowKit kit put get Go.Proofs.Ytjfcoccfkkghaaa.runs
set_option linter.unusedVariables false

theorem lead_rep : ∀ (j c : Nat) (v : Int) (r : List Int), j ≤ c → (j = c ∨ ∀ r', r ≠ v :: r') → lead c v (List.replicate j v ++ r) = j
  | 0, c, v, r, _, h => by
    cases c with
    | zero => rfl
    | succ c =>
      rcases h with h | h
      · omega
      · cases r with
        | nil => rfl
        | cons y r =>
          rw [List.replicate_zero, List.nil_append, lead, if_neg]
          rintro rfl
          exact h r rfl
  | j + 1, 0, v, r, h, _ => by omega
  | j + 1, c + 1, v, r, h, h2 => by
    rw [List.replicate_succ, List.cons_append, lead, if_pos rfl, lead_rep j c v r (by omega) (by rcases h2 with h2 | h2; exact .inl (by omega); exact .inr h2)]

theorem readF_err : ∀ (L : List UInt8) (n k : Nat) (last : UInt8), (readF L n k last).2.2 ≠ 0 → (readF L n k last).1 = [] ∧ (readF L n k last).2.1 = 0
  | [], n, k, last => by
    by_cases h : n ≤ k
    · rw [readF_stop _ _ _ _ h]; simp
    · rw [readF_nil _ _ _ h]; simp
  | b :: L, n, k, last => by
    by_cases h : n ≤ k
    · rw [readF_stop _ _ _ _ h]; simp
    · by_cases hb : n < k + (b.toNat % 16 + 1) ∨ (0 < k ∧ b.toNat / 16 = last.toNat / 16 ∧ last.toNat % 16 ≠ 15)
      · rw [readF_bad _ _ _ _ _ h hb]; simp
      · rw [readF_more _ _ _ _ _ h hb]
        have ih := readF_err L n (k + (b.toNat % 16 + 1)) b
        by_cases h0 : (readF L n (k + (b.toNat % 16 + 1)) b).2.2 = 0
        · rw [if_pos h0]; simp
        · rw [if_neg h0]; exact ih

/-- what is read well is what is written -/
theorem readF_one : ∀ (L : List UInt8) (n k : Nat) (last : UInt8), k ≤ n → (readF L n k last).2.2 = 0 →
    (readF L n k last).1.length + k = n ∧ (readF L n k last).2.1 ≤ L.length ∧ (∀ x ∈ (readF L n k last).1, 0 ≤ x ∧ x ≤ 15) ∧
    wF (readF L n k last).1.length (readF L n k last).1 = L.take (readF L n k last).2.1 ∧
    (k = 0 ∨ last.toNat % 16 = 15 ∨ ∀ r, (readF L n k last).1 ≠ ((last.toNat / 16 : Nat) : Int) :: r)
  | [], n, k, last, hk => by
    by_cases h : n ≤ k
    · rw [readF_stop _ _ _ _ h]; intro _; exact ⟨by simp; omega, by simp, by simp, by simp [wF], .inr (.inr (by simp))⟩
    · rw [readF_nil _ _ _ h]; simp
  | b :: L, n, k, last, hk => by
    by_cases h : n ≤ k
    · rw [readF_stop _ _ _ _ h]; intro _; exact ⟨by simp; omega, by simp, by simp, by simp [wF], .inr (.inr (by simp))⟩
    · by_cases hb : n < k + (b.toNat % 16 + 1) ∨ (0 < k ∧ b.toNat / 16 = last.toNat / 16 ∧ last.toNat % 16 ≠ 15)
      · rw [readF_bad _ _ _ _ _ h hb]; simp
      · rw [readF_more _ _ _ _ _ h hb]
        have ih := readF_one L n (k + (b.toNat % 16 + 1)) b (by omega)
        by_cases h0 : (readF L n (k + (b.toNat % 16 + 1)) b).2.2 = 0
        · rw [if_pos h0]
          intro _
          obtain ⟨i1, i2, i3, i4, i5⟩ := ih h0
          have hbt := b.toNat_lt
          generalize readF L n (k + (b.toNat % 16 + 1)) b = R at i1 i2 i3 i4 i5 ⊢
          obtain ⟨r, c, e⟩ := R
          simp only at i1 i2 i3 i4 i5 ⊢
          have hlead : lead 15 ((b.toNat / 16 : Nat) : Int) (List.replicate (b.toNat % 16) ((b.toNat / 16 : Nat) : Int) ++ r) = b.toNat % 16 :=
            lead_rep _ 15 _ r (by omega) (by rcases i5 with i5 | i5 | i5; omega; exact .inl i5; exact .inr i5)
          refine ⟨by simp; omega, by simp; omega, ?_, ?_, ?_⟩
          · intro x hx
            rcases List.mem_append.1 hx with hx | hx
            · have := (List.mem_replicate.1 hx).2
              omega
            · exact i3 x hx
          · rw [List.replicate_succ, List.cons_append, List.length_cons, wF, hlead, List.drop_left' (by simp), List.take_succ_cons]
            congr 1
            · apply UInt8.toNat_inj.1
              simp
              omega
            · rw [wF_fuel _ r.length r (by simp) (Nat.le_refl _), i4]
          · by_cases hk0 : k = 0
            · exact .inl hk0
            · by_cases hl : last.toNat % 16 = 15
              · exact .inr (.inl hl)
              · right; right
                intro r' e'
                rw [List.replicate_succ, List.cons_append] at e'
                have := (List.cons.inj e').1
                exact hb (.inr ⟨by omega, by omega, hl⟩)
        · rw [if_neg h0]; intro h1; exact absurd h1 h0

theorem read_one (L : List UInt8) : ((readB L).2.2 ≠ 0 → (readB L).1 = [] ∧ (readB L).2.1 = 0) ∧
    ((readB L).2.2 = 0 → writeErr (readB L).1 = 0 ∧ (readB L).2.1 ≤ L.length ∧ writeB (readB L).1 = L.take (readB L).2.1) := by
  unfold readB
  rcases getB_facts L with ⟨k, m, h1, h2, h3, h4, h5⟩ | h | h
  · rw [h1]
    simp only [ne_eq, not_true_eq_false, if_false]
    by_cases hb : 320 < m
    · rw [if_pos hb]; simp
    · rw [if_neg hb]
      have ho := readF_one (L.drop k) m 0 255 (Nat.zero_le _)
      generalize readF (L.drop k) m 0 255 = R at ho ⊢
      obtain ⟨r, c, e⟩ := R
      simp only at ho ⊢
      by_cases he : e = 0
      · rw [if_pos he]
        refine ⟨fun h => absurd rfl h, fun _ => ?_⟩
        show writeErr r = 0 ∧ c + k ≤ L.length ∧ writeB r = L.take (c + k)
        obtain ⟨i1, i2, i3, i4, _⟩ := ho he
        have hdr : (L.drop k).length = L.length - k := List.length_drop
        have hbad : badX r = false := by
          have hall : ∀ (r : List Int), (∀ x ∈ r, 0 ≤ x ∧ x ≤ 15) → badX r = false := by
            intro r i3
            induction r with
            | nil => rfl
            | cons x r ih =>
              rw [badX, if_neg (by have := i3 x (List.mem_cons_self); omega)]
              exact ih (fun y hy => i3 y (List.mem_cons_of_mem _ hy))
          exact hall r i3
        refine ⟨?_, by omega, ?_⟩
        · rw [writeErr, if_neg (by omega), if_neg (by rw [hbad]; decide)]
        · rw [writeB, i4, show r.length = m from by omega, h5, Nat.add_comm c k, List.take_add]
      · rw [if_neg he]
        exact ⟨fun _ => ⟨rfl, rfl⟩, fun h => absurd h he⟩
  · rw [h]; simp
  · rw [h]; simp

set_option maxHeartbeats 1000000 in
set_option maxRecDepth 100000 in
theorem walk (s : ByteArray) (hs : s.size ≤ reachBytes) (W : World) :
    Calls Try.prog 11 #[.string s] W fun e w' => e = .returned (.bool true) ∧ Below W.heap.size W w' := by
  have hr : reachBytes = 140737488351232 := rfl
  rw [hr] at hs
  clear hr
  go_enter Try.func11, Try.ntmps11
  go_wp2_with (fail)
  refine (read_any ⟨#[2, 49]⟩ (by decide) W).mono ?_
  rintro e W1 ⟨ov, rfl, hown, hb1⟩
  have hR0 : readB (⟨#[2, 49]⟩ : ByteArray).data.toList = ([3, 3], 2, 0) := by rfl
  rw [hR0] at hown ⊢
  clear hR0
  go_wp2_with (fail)
  have hsz1 := hb1.size
  have h1 := (own_slice (f := fun x : Int => Value.int .i64 x) rfl hown).below (Nat.le_refl _) ((Below.refl W1.heap.size W1).alloc (Nat.le_refl _) (Obj.cells #[Value.int .i64 3, Value.int .i64 3] 3))
  have h2 : SliceAt (W1.alloc (Obj.cells #[Value.int .i64 3, Value.int .i64 3] 3)) 1 (.slice (some ⟨W1.heap.size, 0, none⟩) 2 2) ([(3 : Int), 3].map fun x => [Value.int .i64 x]) :=
    lit_slice [Value.int .i64 3, Value.int .i64 3] 2 2 rfl (by decide) (by decide) (by decide)
  have hb2 := hb1.alloc hsz1 (Obj.cells #[Value.int .i64 3, Value.int .i64 3] 3)
  generalize W1.alloc (Obj.cells #[Value.int .i64 3, Value.int .i64 3] 3) = W2 at h1 h2 hb2 ⊢
  refine (eqint.equal_any ov _ [3, 3] [3, 3] W2 h1 h2 (by decide) (by decide)).mono ?_
  rintro e W3 ⟨rfl, hgr⟩
  have hb3 := below_ext hb2 hgr
  simp only [decide_true]
  clear h1 h2 hgr hb2 hown hb1
  go_wp2_with (fail)
  refine (read_any s (by omega) W3).mono ?_
  rintro e W4 ⟨ov2, rfl, hown, hb⟩
  have hb4 := hb3.trans (hb.mono hb3.size)
  obtain ⟨hbad, hgood⟩ := read_one s.data.toList
  generalize readB s.data.toList = R at hown hbad hgood ⊢
  obtain ⟨l, k, e⟩ := R
  simp only at hown hbad hgood ⊢
  clear hb hb3
  by_cases he : e = 0
  · subst he
    obtain ⟨g1, g2, g3⟩ := hgood rfl
    have hS : writeS l = ⟨(writeB l).toArray⟩ := by rw [writeS, if_pos g1]
    have hsl := own_slice (f := fun x : Int => Value.int .i64 x) rfl hown
    have hgw : ∀ x ∈ l, (Lit.int .i64 x).wf = true := by
      intro x hx
      have hl3 : ¬ 320 < l.length ∧ badX l = false := by
        unfold writeErr at g1
        split at g1
        · cases g1
        · rename_i h3
          refine ⟨h3, ?_⟩
          cases hb : badX l with
          | false => rfl
          | true => rw [hb] at g1; simp at g1
      have := badX_mem hl3.2 hx
      simp [Lit.wf, IntKind.min, IntKind.max, IntKind.signed, IntKind.bits]
      omega
    have hl3 : l.length ≤ 320 := by
      unfold writeErr at g1
      split at g1
      · cases g1
      · omega
    have hkI : (k : Int) ≤ (s.size : Int) := by have := Lib.size_eq s; omega
    go_wp2_with (fail)
    refine (write_any ov2 l W4 hsl hgw (by omega)).mono ?_
    rintro e W5 ⟨rfl, hb⟩
    have hb5 := hb4.trans (hb.mono hb4.size)
    rw [hS, g1]
    have HW := Lib.hid g3
    clear hS g1 g2 g3 hb hsl hgw hown
    go_wp2_with (fail)
    go_ret
    refine ⟨ret_bool (a := (List.take k s.data.toList == (s.extract 0 k).toList)) ?_, hb5⟩
    rw [Lib.extract_toList]
    simp
  · obtain ⟨rfl, rfl⟩ := hbad he
    have heI : ((e : Int) != 0) = true := by simp; omega
    obtain ⟨q, cap, rfl⟩ := own_len hown
    go_wp2_with (fail)
    go_ret
    exact ⟨rfl, hb4⟩
end Go.Proofs.Ytjfcoccfkkghaaa.lawRunsOne
