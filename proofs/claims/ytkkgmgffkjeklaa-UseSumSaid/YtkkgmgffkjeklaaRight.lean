/-
  inode.Right: the walk.
-/
import Derived.Test.YtkkgmgffkjeklaaRows
import Derived.Test.YtkkgmgffkjeklaaMore
namespace Go.Proofs.Ytkkgmgffkjeklaa.imap
open Go.RowKit kit
set_option linter.unusedVariables false

def rowP (p : Int × Int) : List Value := [.int .i64 p.1, .int .i64 p.2]
def Okay (p : Int × Int) : Prop := 0 ≤ p.1 ∧ p.1 < 128 ∧ 0 ≤ p.2 ∧ p.2 < 40 ∧ (p.1 ≠ 0 ∨ p.2 = 0) ∧ p.1 ≠ 1
instance (p : Int × Int) : Decidable (Okay p) := by unfold Okay; infer_instance

set_option maxRecDepth 100000 in
theorem right_any (c n : Int) (W : World) :
    Calls Try.prog 76 #[.agg #[.int .i64 c, .int .i64 n]] W fun e w' => e = .returned (.bool (decide (Okay (c, n)))) ∧ Below W.heap.size W w' := by
  obtain ⟨r, hr⟩ : ∃ r, r = decide (Okay (c, n)) := ⟨_, rfl⟩
  rw [← hr]
  have hb := (Below.refl W.heap.size W).alloc (Nat.le_refl _) (Obj.cells #[Value.int .i64 c, Value.int .i64 n] 62)
  by_cases h1 : 0 ≤ c
  · by_cases h2 : c < 128
    · by_cases h3 : 0 ≤ n
      · by_cases h4 : n < 40
        · by_cases h5 : c = 0
          · by_cases h6 : n = 0
            · have : r = true := by rw [hr, decide_eq_true_iff]; unfold Okay; simp only; omega
              subst this
              subst h5 h6
              clear hr
              go_enter Try.func76, Try.ntmps76
              go_wp2_with (fail)
              go_ret
              exact ⟨rfl, hb⟩
            · have : r = false := by rw [hr, decide_eq_false_iff_not]; unfold Okay; simp only; omega
              subst this
              have hnb : (n == 0) = false := by simpa using h6
              subst h5
              clear hr
              go_enter Try.func76, Try.ntmps76
              go_wp2_with (fail)
              go_ret
              exact ⟨rfl, hb⟩
          · have hcb : (c != 0) = true := by simpa using h5
            by_cases h6 : c = 1
            · have : r = false := by rw [hr, decide_eq_false_iff_not]; unfold Okay; simp only; omega
              subst this
              subst h6
              clear hr
              go_enter Try.func76, Try.ntmps76
              go_wp2_with (fail)
              go_ret
              exact ⟨rfl, hb⟩
            · have : r = true := by rw [hr, decide_eq_true_iff]; unfold Okay; simp only; omega
              subst this
              have hcb1 : (c != 1) = true := by simpa using h6
              clear hr
              go_enter Try.func76, Try.ntmps76
              go_wp2_with (fail)
              go_ret
              exact ⟨rfl, hb⟩
        · have : r = false := by rw [hr, decide_eq_false_iff_not]; unfold Okay; simp only; omega
          subst this
          clear hr
          go_enter Try.func76, Try.ntmps76
          go_wp2_with (fail)
          go_ret
          exact ⟨rfl, hb⟩
      · have : r = false := by rw [hr, decide_eq_false_iff_not]; unfold Okay; simp only; omega
        subst this
        clear hr
        go_enter Try.func76, Try.ntmps76
        go_wp2_with (fail)
        go_ret
        exact ⟨rfl, hb⟩
    · have : r = false := by rw [hr, decide_eq_false_iff_not]; unfold Okay; simp only; omega
      subst this
      clear hr
      go_enter Try.func76, Try.ntmps76
      go_wp2_with (fail)
      go_ret
      exact ⟨rfl, hb⟩
  · have : r = false := by rw [hr, decide_eq_false_iff_not]; unfold Okay; simp only; omega
    subst this
    clear hr
    go_enter Try.func76, Try.ntmps76
    go_wp2_with (fail)
    go_ret
    exact ⟨rfl, hb⟩
end Go.Proofs.Ytkkgmgffkjeklaa.imap
