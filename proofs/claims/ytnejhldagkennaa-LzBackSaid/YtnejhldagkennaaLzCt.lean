/-
  lz: the contracts as the laws use them.
-/
import Derived.Test.YtnejhldagkennaaLzFind
import Derived.Test.YtnejhldagkennaaOpen2
namespace Go.Proofs.Ytnejhldagkennaa.lz
open Go.RowKit kit sl
set_option linter.unusedVariables false
theorem rowM_eq : rowM = fIIU := by
  funext p
  rfl
theorem find_ct (s : List UInt8) (hs : s.length ≤ 512) :
    Ct Try.prog 12 [.string (str s)] [] fun v H' => ∃ out q c, Found s out ∧ v = .tuple #[.slice q out.length c, .int .i64 0] ∧ H' = [own (.slice q out.length c) 31 3 out.length (flat fIIU out)] := by
  rw [← rowM_eq]
  exact find_any s hs
theorem expand_ct (q : Option Addr) (c : Nat) (xs : List (Int × Int × Int)) (hg : ∀ p ∈ xs, goodM p) (hn : xs.length ≤ 100000000000000000) {r : List UInt8} {e : Nat} (h : expB xs = (r, e)) :
    Ct Try.prog 13 [.slice q xs.length c] [sl 3 (.slice q xs.length c) (xs.map fIIU)] fun v H' => v = .tuple #[.string (str r), .int .i64 (e : Int)] ∧ H' = [] :=
  ct_of_calls fun w hw => (expand_any _ xs w (hw.head : SliceAt w 3 _ (xs.map fIIU)) hg hn).mono fun e w' ⟨h1, h2⟩ => ⟨by rw [h1, h], h2⟩
end Go.Proofs.Ytnejhldagkennaa.lz
