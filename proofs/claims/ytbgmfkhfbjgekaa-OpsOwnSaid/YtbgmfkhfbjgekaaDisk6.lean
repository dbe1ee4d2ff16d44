/-
  disk: the contracts, one for each case.
-/
import Derived.Test.YtbgmfkhfbjgekaaDisk5
namespace Go.Proofs.Ytbgmfkhfbjgekaa.disk
open Go.RowKit kit sl Go.Proofs.Ytbgmfkhfbjgekaa.sleq
set_option linter.unusedVariables false
attribute [local irreducible] box own sl old bptr eptr Qt Opr Run Cod Pst Drn

section
variable (a w : Option Addr) (ca cw : Nat) {cs : List ByteArray} {ps : List (Int × ByteArray)}
theorem write_ok {at' : Int} {text : ByteArray} (h : writeE cs ps at' text = 0) (hc : cs.length ≤ maxLen) (hp : ps.length ≤ maxLen) :
    Ct Try.prog 38 [.agg #[.slice a cs.length ca, .slice w ps.length cw], .int .i64 at', .string text] [sl 1 (.slice a cs.length ca) (cs.map fS), sl 2 (.slice w ps.length cw) (ps.map fP)] (NewDisk cs (ps ++ [(at', text)])) :=
  ct_imp (write_any a w ca cw cs ps at' text hc hp) fun v H' hr => by
    rcases hr with ⟨h1, _⟩ | ⟨_, h1⟩
    · exact absurd h h1
    · exact h1
theorem write_bad {at' : Int} {text : ByteArray} (h : writeE cs ps at' text ≠ 0) (hc : cs.length ≤ maxLen) (hp : ps.length ≤ maxLen) :
    Ct Try.prog 38 [.agg #[.slice a cs.length ca, .slice w ps.length cw], .int .i64 at', .string text] [sl 1 (.slice a cs.length ca) (cs.map fS), sl 2 (.slice w ps.length cw) (ps.map fP)] fun v H' => v = .tuple #[noDisk, .int .i64 (writeE cs ps at' text)] ∧ H' = [] :=
  ct_imp (write_any a w ca cw cs ps at' text hc hp) fun v H' hr => by
    rcases hr with ⟨_, h1⟩ | ⟨h1, _⟩
    · exact h1
    · exact absurd h1 h
/-- new cells, and that all is well -/
def Cells (cs' : List ByteArray) (v : Value) (H' : List Ent) : Prop :=
  ∃ qa ca, v = .tuple #[.agg #[.slice qa cs'.length ca, .slice none 0 0], .int .i64 0] ∧ H' = [own (.slice qa cs'.length ca) 9 1 cs'.length (flat fS cs')]
instance (cs' : List ByteArray) : Xcl (Cells cs') := inferInstanceAs (Xcl fun v H' => ∃ qa ca, v = .tuple #[.agg #[.slice qa cs'.length ca, .slice none 0 0], .int .i64 0] ∧ H' = [own (.slice qa cs'.length ca) 9 1 cs'.length (flat fS cs')])
instance (cs' : List ByteArray) (ps' : List (Int × ByteArray)) : Xcl (NewDisk cs' ps') := inferInstanceAs (Xcl fun v H' => ∃ qa ca qw cw, v = .tuple #[.agg #[.slice qa cs'.length ca, .slice qw ps'.length cw], .int .i64 0] ∧ H' = [own (.slice qa cs'.length ca) 9 1 cs'.length (flat fS cs'), own (.slice qw ps'.length cw) 63 2 ps'.length (flat fP ps')])
theorem sync_ok (h : Good cs ps) : Ct Try.prog 39 [.agg #[.slice a cs.length ca, .slice w ps.length cw]] [sl 1 (.slice a cs.length ca) (cs.map fS), sl 2 (.slice w ps.length cw) (ps.map fP)] (Cells (land (fun _ => true) 0 cs ps)) := by
  have h1 := h.n1
  have h2 := h.wait
  refine ct_imp (sync_any a w ca cw cs ps (by unfold maxLen; omega) (by unfold maxLen; omega)) fun v H' hr => ?_
  rcases hr with ⟨h1, _⟩ | ⟨_, h1⟩
  · exact absurd (of_good h) h1
  · exact h1
theorem sync_bad (h : checkD cs ps ≠ 0) (hc : cs.length ≤ maxLen) (hp : ps.length ≤ maxLen) : Ct Try.prog 39 [.agg #[.slice a cs.length ca, .slice w ps.length cw]] [sl 1 (.slice a cs.length ca) (cs.map fS), sl 2 (.slice w ps.length cw) (ps.map fP)] fun v H' => v = .tuple #[noDisk, .int .i64 (checkD cs ps)] ∧ H' = [] := by
  refine ct_imp (sync_any a w ca cw cs ps hc hp) fun v H' hr => ?_
  rcases hr with ⟨_, h1⟩ | ⟨h1, _⟩
  · exact h1
  · exact absurd h1 h
theorem crash_ok (qk : Option Addr) (ck : Nat) {ks : List Bool} (h : Good cs ps) (hk : ks.length ≤ maxLen) : Ct Try.prog 40 [.agg #[.slice a cs.length ca, .slice w ps.length cw], .slice qk ks.length ck] [sl 1 (.slice a cs.length ca) (cs.map fS), sl 2 (.slice w ps.length cw) (ps.map fP), sl 1 (.slice qk ks.length ck) (ks.map fB)] (Cells (land (fun i => ks.getD i false) 0 cs ps)) := by
  have h1 := h.n1
  have h2 := h.wait
  refine ct_imp (crash_any a w qk ca cw ck cs ps ks (by unfold maxLen; omega) (by unfold maxLen; omega) hk) fun v H' hr => ?_
  rcases hr with ⟨h1, _⟩ | ⟨_, h1⟩
  · exact absurd (of_good h) h1
  · exact h1
theorem crash_bad (qk : Option Addr) (ck : Nat) {ks : List Bool} (h : checkD cs ps ≠ 0) (hc : cs.length ≤ maxLen) (hp : ps.length ≤ maxLen) (hk : ks.length ≤ maxLen) : Ct Try.prog 40 [.agg #[.slice a cs.length ca, .slice w ps.length cw], .slice qk ks.length ck] [sl 1 (.slice a cs.length ca) (cs.map fS), sl 2 (.slice w ps.length cw) (ps.map fP), sl 1 (.slice qk ks.length ck) (ks.map fB)] fun v H' => v = .tuple #[noDisk, .int .i64 (checkD cs ps)] ∧ H' = [] := by
  refine ct_imp (crash_any a w qk ca cw ck cs ps ks hc hp hk) fun v H' hr => ?_
  rcases hr with ⟨_, h1⟩ | ⟨h1, _⟩
  · exact h1
  · exact absurd h1 h
end
end Go.Proofs.Ytbgmfkhfbjgekaa.disk
