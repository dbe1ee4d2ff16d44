/-
  SumBursts: the walk of the law: it answers true.
-/
import Derived.Test.YtjeocmkdekdlnaaBurst
import Derived.Test.YtjeocmkdekdlnaaWalkSumForces
namespace Go.Proofs.Ytjeocmkdekdlnaa.lawSumBursts
open Go.RowKit kit sum within burst lawSumForces
set_option linter.unusedVariables false

theorem sum_nil : moreB 0#32 [] = 0#32 := by decide
theorem sum_a : moreB 0#32 [97] = 3251651376#32 := by decide

theorem burst_law (l : List UInt8) (k turn : Nat) (ht : turn < 4294967296) (h5 : 5 ≤ l.length) (hk : k < 8 * (l.length - 4)) : (moreB 0#32 l = moreB 0#32 (burstB l k turn)) ↔ l = burstB l k turn := by
  constructor
  · intro h
    have hp : k / 8 + 5 ≤ l.length := by omega
    by_cases h0 : turn = 0
    · subst h0
      rw [burstB, Nat.zero_mul]
      apply List.ext_getElem?
      intro j
      rw [part_get]
      have e : ∀ i, (burstE 0).getD i 0 = 0 := by
        intro i
        match i with
        | 0 => rfl
        | 1 => rfl
        | 2 => rfl
        | 3 => rfl
        | 4 => rfl
        | n + 5 => rfl
      simp only [e]
      cases l[j]? with
      | none => rfl
      | some b => simp
    · exfalso
      have hs : l = l.take (k / 8) ++ (l.drop (k / 8)).take 5 ++ l.drop (k / 8 + 5) := by
        rw [List.append_assoc, ← List.drop_drop, List.take_append_drop, List.take_append_drop]
      have hne := burst_sum (l.take (k / 8)) ((l.drop (k / 8)).take 5) (l.drop (k / 8 + 5)) turn (k % 8) ht (by omega) (by simp; omega) h0
      rw [← hs, ← part_five l (k / 8) _ rfl hp] at hne
      exact hne h
  · intro h; rw [← h]

set_option maxHeartbeats 1000000 in
set_option maxRecDepth 100000 in
theorem walk (s : ByteArray) (hs : s.size ≤ reachBytes) (a0 : Int) (w0 : (Lit.int .i64 a0).wf = true) (t0 : Int) (w1 : (Lit.int .u32 t0).wf = true) (W : World) :
    Calls Try.prog 8 #[.string s, .int .i64 a0, .int .u32 t0] W fun e w' => e = .returned (.bool true) ∧ Below W.heap.size W w' := by
  have hr : reachBytes = 140737488351232 := rfl
  rw [hr] at hs
  obtain ⟨turn, rfl, ht⟩ := u32_nat w1
  clear hr w0 w1
  have key : ∀ t : ByteArray, t.size ≤ 140737488351232 → (∀ w, Calls Try.prog 23 #[.string s, .int .i64 a0, .int .u32 turn] w fun e w' => e = .returned (.string t) ∧ Below w.heap.size w w') →
      ((moreB 0#32 s.data.toList = moreB 0#32 t.data.toList) ↔ s.data.toList = t.data.toList) →
      Calls Try.prog 8 #[.string s, .int .i64 a0, .int .u32 turn] W fun e w' => e = .returned (.bool true) ∧ Below W.heap.size W w' := by
    intro t hts hcall hiff
    have HC := Lib.hid hcall
    obtain ⟨u, hu⟩ : ∃ u, u = moreB 0#32 s.data.toList := ⟨_, rfl⟩
    obtain ⟨v, hv⟩ : ∃ v, v = moreB 0#32 t.data.toList := ⟨_, rfl⟩
    rw [← hu, ← hv] at hiff
    have hb : (((u.toNat : Int) == (v.toNat : Int)) == (s.toList == t.toList)) = true := by
      rw [Lib.toList_data, Lib.toList_data, beq_iff_eq, Bool.eq_iff_iff, beq_iff_eq, beq_iff_eq, ← hiff]
      constructor
      · intro h; exact BitVec.eq_of_toNat_eq (by omega)
      · intro h; rw [h]
    have HU := Lib.hid hu
    have HV := Lib.hid hv
    clear hcall hiff hu hv
    go_enter Try.func8, Try.ntmps8
    go_wp2_with (fail)
    refine (HC.out _).mono ?_
    rintro e w1 ⟨rfl, hb1⟩
    go_wp2_with (fail)
    refine (from_below (sum_as s hs u HU.out _) hb1).mono ?_
    rintro e w2 ⟨rfl, hb2⟩
    go_wp2_with (fail)
    refine (from_below (sum_as t hts v HV.out _) hb2).mono ?_
    rintro e w3 ⟨rfl, hb3⟩
    go_wp2_with (fail)
    refine (from_below (sum_as ⟨#[]⟩ (by decide) 0#32 (by decide) _) hb3).mono ?_
    rintro e w4 ⟨rfl, hb4⟩
    go_wp2_with (fail)
    refine (from_below (sum_as ⟨#[97]⟩ (by decide) 3251651376#32 (by decide) _) hb4).mono ?_
    rintro e w5 ⟨rfl, hb5⟩
    go_wp2_with (fail)
    go_ret
    exact ⟨rfl, hb5⟩
  by_cases h5 : s.size < 5
  · refine key s hs (fun w => (short_any s a0 turn h5 w).mono fun e w' ⟨h1, h2⟩ => ⟨h1, h2 ▸ Below.refl _ _⟩) ?_
    exact ⟨fun _ => rfl, fun _ => rfl⟩
  · have hkb := withinF_bd a0 (8 * ((s.size : Int) - 4)) (by omega)
    obtain ⟨k, hk⟩ := Int.eq_ofNat_of_zero_le hkb.1
    rw [hk] at hkb
    have hl : s.data.toList.length = s.size := (Lib.size_eq s).symm
    refine key ⟨(burstB s.data.toList k turn).toArray⟩ (by rw [size_mk, burstB, part_len, hl]; exact hs) (fun w => burst_any s hs a0 turn k ht (by omega) hk w) ?_
    have := burst_law s.data.toList k turn ht (by omega) (by omega)
    simpa using this
end Go.Proofs.Ytjeocmkdekdlnaa.lawSumBursts
