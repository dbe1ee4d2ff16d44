/-
  glob: what Match answers, in one word; its laws.
-/
import Derived.Test.YtcbpeampjhegcaaDoorGlobSgn
namespace Go.Proofs.YtcbpeampjhegcaaDoor.glob
open Go.RowKit kit sl
set_option linter.unusedVariables false
noncomputable instance (ps : List Pt) (t : List Nat) : Decidable (M ps t) := Classical.propDecidable _
noncomputable def matchV (p s : List UInt8) : Bool × Int :=
  if 40 < p.length ∨ 40 < s.length then (false, 2) else
  match partsS (sigs p) with
  | none => (false, 4)
  | some ps => (decide (M ps (sigs s)), 0)
theorem match_v {W : World} (hT : TabsIn W) (p s : List UInt8) (hp : p.length ≤ 140737488351232) (hs : s.length ≤ 140737488351232) :
    Ct Tryd.prog 6 [.string (str p), .string (str s)] [old W] fun v H' => v = .tuple #[.bool (matchV p s).1, .int .i64 (matchV p s).2] ∧ H' = [] := by
  refine spec_mono (match_any hT p s hp hs) fun v H' h => ?_
  unfold matchV
  rcases h with ⟨h1, h2, h3⟩ | ⟨h1, h2, h3, h4⟩ | ⟨h1, ps, b, h2, h3, h4, h5⟩
  · rw [if_pos h1]
    exact ⟨h2, h3⟩
  · rw [if_neg h1, h2]
    exact ⟨h3, h4⟩
  · rw [if_neg h1, h2]
    refine ⟨?_, h5⟩
    rw [h4]
    have : b = decide (M ps (sigs s)) := by
      cases b with
      | true => exact (decide_eq_true (h3.1 rfl)).symm
      | false => exact (decide_eq_false fun h => absurd (h3.2 h) (by decide)).symm
    rw [this]
theorem mv_far {p s : List UInt8} (h : 40 < p.length ∨ 40 < s.length) : matchV p s = (false, 2) := by unfold matchV; rw [if_pos h]
theorem mv_ok {p s : List UInt8} {ps : List Pt} (h : ¬ (40 < p.length ∨ 40 < s.length)) (hp : partsS (sigs p) = some ps) : ∃ b, matchV p s = (b, 0) ∧ (b = true ↔ M ps (sigs s)) := by
  unfold matchV
  rw [if_neg h, hp]
  exact ⟨_, rfl, by rw [decide_eq_true_iff]⟩
theorem mv_none {p s : List UInt8} (h : ¬ (40 < p.length ∨ 40 < s.length)) (hp : partsS (sigs p) = none) : matchV p s = (false, 4) := by
  unfold matchV
  rw [if_neg h, hp]
theorem sigs_quote (s : List UInt8) : sigs (quote s) = quoteN (sigs s) := sig_eq (sig_quote (sig_sigs s))
theorem mv_quote {s t : List UInt8} (h : ¬ (40 < (quote s).length ∨ 40 < t.length)) : matchV (quote s) t = (s == t, 0) := by
  have hp : partsS (sigs (quote s)) = some ((sigs s).map one) := by rw [sigs_quote, parts_quote]
  obtain ⟨b, h1, h2⟩ := mv_ok h hp
  rw [h1]
  rw [m_exact] at h2
  have : b = (s == t) := by
    rw [Bool.eq_iff_iff, h2, beq_iff_eq]
    exact ⟨fun e => (sigs_inj e).symm, fun e => by rw [e]⟩
  rw [this]
theorem quote_more (s : List UInt8) : s.length ≤ (quote s).length := by
  induction s with
  | nil => exact Nat.le_refl _
  | cons b t ih =>
    have : quote (b :: t) = (if isSp b then [92, b] else [b]) ++ quote t := by unfold quote; rw [List.flatMap_cons]
    rw [this, List.length_append, List.length_cons]
    split
    · simp only [List.length_cons, List.length_nil]; omega
    · simp only [List.length_cons, List.length_nil]; omega
theorem quote_brk : quote [91] = [92, 91] := rfl
theorem quote_one : quote [97, 42] = [97, 92, 42] := rfl
end Go.Proofs.YtcbpeampjhegcaaDoor.glob
