/-
  imap.Check and inode.Right, as the small logic says them.
-/
import Derived.Test.YtkkgmgffkjeklaaSlOwn
import Derived.Test.YtkkgmgffkjeklaaTypes
import Derived.Test.YtkkgmgffkjeklaaImapCheck
namespace Go.Proofs.Ytkkgmgffkjeklaa.imap
open Go.RowKit kit sl
set_option linter.unusedVariables false
def WfM (ps : List (Int × Int)) (gs : List Int) : Prop := (∀ p ∈ ps, (Lit.int .i64 p.1).wf = true ∧ (Lit.int .i64 p.2).wf = true) ∧ (∀ z ∈ gs, (Lit.int .i64 z).wf = true) ∧ ps.length ≤ 1000000000000000 ∧ gs.length ≤ 1000000000000000
theorem mapAt_of {W : World} {a g : Value} {ps : List (Int × Int)} {gs : List Int} (h : HeapOk [sl 2 a (ps.map fII), sl 1 g (gs.map fI)] W) (hw : WfM ps gs) : MapAt W a g ps gs :=
  ⟨h.1 (sl 2 a (ps.map fII)) (by simp), h.1 (sl 1 g (gs.map fI)) (by simp), hw.1, hw.2.1, hw.2.2.1, hw.2.2.2⟩
attribute [local irreducible] box own sl old bptr eptr Qt Opr Run Cod Pst Drn
theorem check_good (a g : Value) {ps : List (Int × Int)} {gs : List Int} (hw : WfM ps gs) (h : GoodM ps gs) : Ct Try.prog 49 [.agg #[a, g]] [sl 2 a (ps.map fII), sl 1 g (gs.map fI)] fun v H' => v = .int .i64 0 ∧ H' = [] :=
  ct_of_calls fun W hW => (check_any a g ps gs W (mapAt_of hW hw)).mono fun e w' ⟨h1, h2⟩ => ⟨by
    rcases h1 with h1 | h1
    · exact h1.2
    · exact absurd h h1.1, h2⟩
theorem check_bad (a g : Value) {ps : List (Int × Int)} {gs : List Int} (hw : WfM ps gs) (h : ¬ GoodM ps gs) : Ct Try.prog 49 [.agg #[a, g]] [sl 2 a (ps.map fII), sl 1 g (gs.map fI)] fun v H' => v = .int .i64 4 ∧ H' = [] :=
  ct_of_calls fun W hW => (check_any a g ps gs W (mapAt_of hW hw)).mono fun e w' ⟨h1, h2⟩ => ⟨by
    rcases h1 with h1 | h1
    · exact absurd h1.1 h
    · exact h1.2, h2⟩
theorem right_ct (p : Int × Int) : Ct Try.prog 76 [.agg #[.int .i64 p.1, .int .i64 p.2]] [] fun v H' => v = .bool (decide (Okay p)) ∧ H' = [] :=
  ct_of_calls fun W hW => right_any p.1 p.2 W
end Go.Proofs.Ytkkgmgffkjeklaa.imap
