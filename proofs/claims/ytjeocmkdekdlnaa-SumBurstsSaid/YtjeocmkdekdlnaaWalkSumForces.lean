/-
  SumForces: the walk of the law: it answers true.
-/
import Derived.Test.YtjeocmkdekdlnaaSumForce
namespace Go.Proofs.Ytjeocmkdekdlnaa.lawSumForces
open Go.RowKit kit sum
set_option linter.unusedVariables false

theorem u32_bv {a : Int} (h : (Lit.int .u32 a).wf = true) : ∃ c : BitVec 32, a = (c.toNat : Int) := by
  obtain ⟨n, rfl, hn⟩ := u32_nat h
  exact ⟨BitVec.ofNat 32 n, by rw [BitVec.toNat_ofNat]; omega⟩

theorem four (l : List UInt8) (h : l.length = 4) : ∃ a b c d, l = [a, b, c, d] := by
  match l, h with
  | [a, b, c, d], _ => exact ⟨a, b, c, d, rfl⟩

set_option maxRecDepth 100000 in
theorem walk (c0 : Int) (w0 : (Lit.int .u32 c0).wf = true) (v0 : Int) (w1 : (Lit.int .u32 v0).wf = true) (s : ByteArray) (hs : s.size ≤ reachBytes) (W : World) :
    Calls Try.prog 11 #[.int .u32 c0, .int .u32 v0, .string s] W fun e w' => e = .returned (.bool true) ∧ Below W.heap.size W w' := by
  have hr : reachBytes = 140737488351232 := rfl
  rw [hr] at hs
  obtain ⟨c, rfl⟩ := u32_bv w0
  obtain ⟨v, rfl⟩ := u32_bv w1
  clear hr w0 w1
  obtain ⟨l, hl⟩ : ∃ l, l = forceB c v := ⟨_, rfl⟩
  have hll : l.length = 4 := by rw [hl]; rfl
  have hmv : v = moreB c l := by rw [hl, force_more]
  have HL := Lib.hid hl
  have HM := Lib.hid hmv
  clear hl hmv
  by_cases h4 : s.size = 4
  · obtain ⟨b0, b1, b2, b3, hb⟩ := four s.data.toList (by rw [← Lib.size_eq]; exact h4)
    obtain ⟨u, hu⟩ : ∃ u, u = moreB c s.data.toList := ⟨_, rfl⟩
    have hf : s.data.toList = forceB c u := by rw [hu, hb, force_only]
    have heq : (s.data.toList == s.toList) = true := by rw [Lib.toList_data]; simp
    have h4I : ((s.size : Int) != 4) = false := by simp [h4]
    have HU := Lib.hid hu
    have HF := Lib.hid hf
    clear hu hf hb
    have H4 := Lib.hid h4
    clear h4
    go_enter Try.func11, Try.ntmps11
    go_wp2_with (fail)
    refine (force_as c v l HL.out _).mono ?_
    rintro e w1 ⟨rfl, hb1⟩
    go_wp2_with (fail)
    refine (from_below (more_as c ⟨l.toArray⟩ (by rw [size_mk, hll]; decide) v (by simpa using HM.out) _) hb1).mono ?_
    rintro e w2 ⟨rfl, hb2⟩
    go_wp2_with (fail)
    refine (from_below (more_as c s hs u HU.out _) hb2).mono ?_
    rintro e w3 ⟨rfl, hb3⟩
    go_wp2_with (fail)
    refine (from_below (force_as c u s.data.toList HF.out _) hb3).mono ?_
    rintro e w4 ⟨rfl, hb4⟩
    go_wp2_with (fail)
    go_ret
    exact ⟨rfl, hb4⟩
  · have h4I : ((s.size : Int) != 4) = true := by simp; omega
    go_enter Try.func11, Try.ntmps11
    go_wp2_with (fail)
    refine (force_as c v l HL.out _).mono ?_
    rintro e w1 ⟨rfl, hb1⟩
    go_wp2_with (fail)
    refine (from_below (more_as c ⟨l.toArray⟩ (by rw [size_mk, hll]; decide) v (by simpa using HM.out) _) hb1).mono ?_
    rintro e w2 ⟨rfl, hb2⟩
    go_wp2_with (fail)
    go_ret
    exact ⟨rfl, hb2⟩
end Go.Proofs.Ytjeocmkdekdlnaa.lawSumForces
