/-
  A burst: the plain law.
-/
import Derived.Test.YtmjjdmofohjkkaaBurst
namespace Go.Proofs.Ytmjjdmofohjkkaa.burst
open Go.RowKit kit sum within
set_option linter.unusedVariables false

theorem burst_law (l : List UInt8) (k turn : Nat) (ht : turn < 4294967296) (h5 : 5 ≤ l.length) (hk : k < 8 * (l.length - 4)) : (moreB 0#32 l = moreB 0#32 (burstB l k turn)) ↔ l = burstB l k turn := by
  constructor
  · intro h
    have hp : k / 8 + 5 ≤ l.length := by omega
    by_cases h0 : turn = 0
    · subst h0
      rw [burstB, Nat.zero_mul]
      apply List.ext_getElem?
      intro j
      rw [part_get]
      have e : ∀ i, (burstE 0).getD i 0 = 0 := by
        intro i
        match i with
        | 0 => rfl
        | 1 => rfl
        | 2 => rfl
        | 3 => rfl
        | 4 => rfl
        | n + 5 => rfl
      simp only [e]
      cases l[j]? with
      | none => rfl
      | some b => simp
    · exfalso
      have hs : l = l.take (k / 8) ++ (l.drop (k / 8)).take 5 ++ l.drop (k / 8 + 5) := by
        rw [List.append_assoc, ← List.drop_drop, List.take_append_drop, List.take_append_drop]
      have hne := burst_sum (l.take (k / 8)) ((l.drop (k / 8)).take 5) (l.drop (k / 8 + 5)) turn (k % 8) ht (by omega) (by simp; omega) h0
      rw [← hs, ← part_five l (k / 8) _ rfl hp] at hne
      exact hne h
  · intro h; rw [← h]

end Go.Proofs.Ytmjjdmofohjkkaa.burst
