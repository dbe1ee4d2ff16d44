/-
  No cell of these rows narrows 'for every input' (looked for: loops, veiled, ifaces, maps, wideKeys, modest, calm, conditions, laid).
  DERIVED. THE GIVEN ROWS OF THIS SEAT. 9 by the template 'for every input the law returns true; each argument reads behind the call as it read before'; 0 by the template 'total and deterministic' (their statements: YtnejhldagkennaaTotals.lean).
  GIVEN WITH THE SEED: the statements are not yours to turn. If you find one false, say at which input.
  Laid BY PROGRAM, IN A SANDBOX (cutbox-rows.mjs): the forced cells as the released guide's own fill.sh prints them over the translation 98e9e0edf8c09d53… (all of the seat's roots in one cut). By AI agents, Wed Nov 11 2026. No macro, syntax, notation, axiom, sorry.
-/
import Derived.Test.YtnejhldagkennaaChecked
import GoSem.Claim
import GoSem.ClaimJoined
import GoSem.ClaimMapViews
import Derived.JoinedTies
import Derived.KernelRfl
namespace Go.Proofs.Ytnejhldagkennaa
/- THE CELL 'sum', in the pinned program and in every row, IS THE sha256 OF THE DUMP (.gsa) THAT YtnejhldagkennaaProg.lean LOADS. Nothing in Lean hashes anything: it is a label: what it is worth is what the hold of that sum in a sandbox is worth. -/
noncomputable def Try.pinned : Pinned := { name := "ytnejhldagkennaa", sum := "98e9e0edf8c09d53758c05eeee2d76abe6883dc6bf812a280de1f6d06299457e", checked := Try.checked }
namespace Rows
def none {H : Type} : Left H := { results := [], args := [] }

/-- 'linenkeep.LzFewest': WHATEVER THE INPUT: true; the input reads as it did. -/
def lzFewestSpec : ChangeSpec := { name := "lzFewest", fn := fun _ => fun
  | [d] => { results := [.lit (.bool true)], args := [d] }
  | _ => none }
def lzFewestRow : OpenClaim := { program := "ytnejhldagkennaa", sum := "98e9e0edf8c09d53758c05eeee2d76abe6883dc6bf812a280de1f6d06299457e", func := "linenpress/linenkeep.LzFewest", spec := "lzFewest", plainKeys := false, apart := false }
def LzFewestSaid : Prop := lzFewestRow.holds Try.pinned (OpenSpec.ofChange lzFewestSpec)

/-- ITS FALSE NEIGHBOUR: 'it returns false'. Refute it at one input. -/
def lzFewestWrong : ChangeSpec := { name := "lzFewest", fn := fun _ => fun
  | [d] => { results := [.lit (.bool false)], args := [d] }
  | _ => none }
def LzFewestWrongFalsely : Prop := lzFewestRow.holds Try.pinned (OpenSpec.ofChange lzFewestWrong)

/-- 'linenkeep.LzBack': WHATEVER THE INPUT: true; the input reads as it did. -/
def lzBackSpec : ChangeSpec := { name := "lzBack", fn := fun _ => fun
  | [d] => { results := [.lit (.bool true)], args := [d] }
  | _ => none }
def lzBackRow : OpenClaim := { program := "ytnejhldagkennaa", sum := "98e9e0edf8c09d53758c05eeee2d76abe6883dc6bf812a280de1f6d06299457e", func := "linenpress/linenkeep.LzBack", spec := "lzBack", plainKeys := false, apart := false }
def LzBackSaid : Prop := lzBackRow.holds Try.pinned (OpenSpec.ofChange lzBackSpec)

/-- ITS FALSE NEIGHBOUR: 'it returns false'. Refute it at one input. -/
def lzBackWrong : ChangeSpec := { name := "lzBack", fn := fun _ => fun
  | [d] => { results := [.lit (.bool false)], args := [d] }
  | _ => none }
def LzBackWrongFalsely : Prop := lzBackRow.holds Try.pinned (OpenSpec.ofChange lzBackWrong)

/-- 'linenkeep.CodeCuts': WHATEVER THE INPUT: true; the input reads as it did. -/
def codeCutsSpec : ChangeSpec := { name := "codeCuts", fn := fun _ => fun
  | [d1, d2, d3, d4] => { results := [.lit (.bool true)], args := [d1, d2, d3, d4] }
  | _ => none }
def codeCutsRow : OpenClaim := { program := "ytnejhldagkennaa", sum := "98e9e0edf8c09d53758c05eeee2d76abe6883dc6bf812a280de1f6d06299457e", func := "linenpress/linenkeep.CodeCuts", spec := "codeCuts", plainKeys := false, apart := false }
def CodeCutsSaid : Prop := codeCutsRow.holds Try.pinned (OpenSpec.ofChange codeCutsSpec)

/-- ITS FALSE NEIGHBOUR: 'it returns false'. Refute it at one input. -/
def codeCutsWrong : ChangeSpec := { name := "codeCuts", fn := fun _ => fun
  | [d1, d2, d3, d4] => { results := [.lit (.bool false)], args := [d1, d2, d3, d4] }
  | _ => none }
def CodeCutsWrongFalsely : Prop := codeCutsRow.holds Try.pinned (OpenSpec.ofChange codeCutsWrong)

/-- 'linenkeep.CodeOne': WHATEVER THE INPUT: true; the input reads as it did. -/
def codeOneSpec : ChangeSpec := { name := "codeOne", fn := fun _ => fun
  | [d1, d2, d3] => { results := [.lit (.bool true)], args := [d1, d2, d3] }
  | _ => none }
def codeOneRow : OpenClaim := { program := "ytnejhldagkennaa", sum := "98e9e0edf8c09d53758c05eeee2d76abe6883dc6bf812a280de1f6d06299457e", func := "linenpress/linenkeep.CodeOne", spec := "codeOne", recurses := true, plainKeys := false, apart := false }
def CodeOneSaid : Prop := codeOneRow.holds Try.pinned (OpenSpec.ofChange codeOneSpec)

/-- ITS FALSE NEIGHBOUR: 'it returns false'. Refute it at one input. -/
def codeOneWrong : ChangeSpec := { name := "codeOne", fn := fun _ => fun
  | [d1, d2, d3] => { results := [.lit (.bool false)], args := [d1, d2, d3] }
  | _ => none }
def CodeOneWrongFalsely : Prop := codeOneRow.holds Try.pinned (OpenSpec.ofChange codeOneWrong)

/-- 'linenkeep.CodeBack': WHATEVER THE INPUT: true; the input reads as it did. -/
def codeBackSpec : ChangeSpec := { name := "codeBack", fn := fun _ => fun
  | [d1, d2, d3] => { results := [.lit (.bool true)], args := [d1, d2, d3] }
  | _ => none }
def codeBackRow : OpenClaim := { program := "ytnejhldagkennaa", sum := "98e9e0edf8c09d53758c05eeee2d76abe6883dc6bf812a280de1f6d06299457e", func := "linenpress/linenkeep.CodeBack", spec := "codeBack", recurses := true, plainKeys := false, apart := false }
def CodeBackSaid : Prop := codeBackRow.holds Try.pinned (OpenSpec.ofChange codeBackSpec)

/-- ITS FALSE NEIGHBOUR: 'it returns false'. Refute it at one input. -/
def codeBackWrong : ChangeSpec := { name := "codeBack", fn := fun _ => fun
  | [d1, d2, d3] => { results := [.lit (.bool false)], args := [d1, d2, d3] }
  | _ => none }
def CodeBackWrongFalsely : Prop := codeBackRow.holds Try.pinned (OpenSpec.ofChange codeBackWrong)

/-- 'linenkeep.HuffOrders': WHATEVER THE INPUT: true; the input reads as it did. -/
def huffOrdersSpec : ChangeSpec := { name := "huffOrders", fn := fun _ => fun
  | [d1, d2] => { results := [.lit (.bool true)], args := [d1, d2] }
  | _ => none }
def huffOrdersRow : OpenClaim := { program := "ytnejhldagkennaa", sum := "98e9e0edf8c09d53758c05eeee2d76abe6883dc6bf812a280de1f6d06299457e", func := "linenpress/linenkeep.HuffOrders", spec := "huffOrders", unfollowed := true, recurses := true, plainKeys := false, apart := false }
def HuffOrdersSaid : Prop := huffOrdersRow.holds Try.pinned (OpenSpec.ofChange huffOrdersSpec)

/-- ITS FALSE NEIGHBOUR: 'it returns false'. Refute it at one input. -/
def huffOrdersWrong : ChangeSpec := { name := "huffOrders", fn := fun _ => fun
  | [d1, d2] => { results := [.lit (.bool false)], args := [d1, d2] }
  | _ => none }
def HuffOrdersWrongFalsely : Prop := huffOrdersRow.holds Try.pinned (OpenSpec.ofChange huffOrdersWrong)

/-- 'linenkeep.HuffLeast': WHATEVER THE INPUT: true; the input reads as it did. -/
def huffLeastSpec : ChangeSpec := { name := "huffLeast", fn := fun _ => fun
  | [d1, d2] => { results := [.lit (.bool true)], args := [d1, d2] }
  | _ => none }
def huffLeastRow : OpenClaim := { program := "ytnejhldagkennaa", sum := "98e9e0edf8c09d53758c05eeee2d76abe6883dc6bf812a280de1f6d06299457e", func := "linenpress/linenkeep.HuffLeast", spec := "huffLeast", unfollowed := true, recurses := true, plainKeys := false, apart := false }
def HuffLeastSaid : Prop := huffLeastRow.holds Try.pinned (OpenSpec.ofChange huffLeastSpec)

/-- ITS FALSE NEIGHBOUR: 'it returns false'. Refute it at one input. -/
def huffLeastWrong : ChangeSpec := { name := "huffLeast", fn := fun _ => fun
  | [d1, d2] => { results := [.lit (.bool false)], args := [d1, d2] }
  | _ => none }
def HuffLeastWrongFalsely : Prop := huffLeastRow.holds Try.pinned (OpenSpec.ofChange huffLeastWrong)

/-- 'linenkeep.HuffMerges': WHATEVER THE INPUT: true; the input reads as it did. -/
def huffMergesSpec : ChangeSpec := { name := "huffMerges", fn := fun _ => fun
  | [d] => { results := [.lit (.bool true)], args := [d] }
  | _ => none }
def huffMergesRow : OpenClaim := { program := "ytnejhldagkennaa", sum := "98e9e0edf8c09d53758c05eeee2d76abe6883dc6bf812a280de1f6d06299457e", func := "linenpress/linenkeep.HuffMerges", spec := "huffMerges", unfollowed := true, recurses := true, plainKeys := false, apart := false }
def HuffMergesSaid : Prop := huffMergesRow.holds Try.pinned (OpenSpec.ofChange huffMergesSpec)

/-- ITS FALSE NEIGHBOUR: 'it returns false'. Refute it at one input. -/
def huffMergesWrong : ChangeSpec := { name := "huffMerges", fn := fun _ => fun
  | [d] => { results := [.lit (.bool false)], args := [d] }
  | _ => none }
def HuffMergesWrongFalsely : Prop := huffMergesRow.holds Try.pinned (OpenSpec.ofChange huffMergesWrong)

/-- 'linenkeep.HuffFlat': WHATEVER THE INPUT: true; the input reads as it did. -/
def huffFlatSpec : ChangeSpec := { name := "huffFlat", fn := fun _ => fun
  | [d1, d2, d3, d4] => { results := [.lit (.bool true)], args := [d1, d2, d3, d4] }
  | _ => none }
def huffFlatRow : OpenClaim := { program := "ytnejhldagkennaa", sum := "98e9e0edf8c09d53758c05eeee2d76abe6883dc6bf812a280de1f6d06299457e", func := "linenpress/linenkeep.HuffFlat", spec := "huffFlat", unfollowed := true, recurses := true, plainKeys := false, apart := false }
def HuffFlatSaid : Prop := huffFlatRow.holds Try.pinned (OpenSpec.ofChange huffFlatSpec)

/-- ITS FALSE NEIGHBOUR: 'it returns false'. Refute it at one input. -/
def huffFlatWrong : ChangeSpec := { name := "huffFlat", fn := fun _ => fun
  | [d1, d2, d3, d4] => { results := [.lit (.bool false)], args := [d1, d2, d3, d4] }
  | _ => none }
def HuffFlatWrongFalsely : Prop := huffFlatRow.holds Try.pinned (OpenSpec.ofChange huffFlatWrong)

/- THE SECOND FORM. 'bulk': how many values and letters a reading holds, each counted each time it is reached (what is shared counts as often as it is met; a slice's spare places count too). A statement '..UptoSaid' is the law's where the arguments, and the package variables that the reading takes, are together of bulk at most 1048576: NARROWER than '..Said'. Prove '..Said' where nothing that the law and all that it calls make is longer than what came in: it says more and counts as full. Else prove '..UptoSaid'. A law counts once. -/
mutual
def uptoBulk {H : Type} : DataW H → Nat
  | .lit (.string bytes) => bytes.length + 1
  | .lit _ => 1
  | .nil => 1
  | .ptr d => uptoBulk d + 1
  | .slice elems spare => uptoBulkAll elems + uptoBulkAll spare + 1
  | .agg parts => uptoBulkAll parts + 1
  | .iface _ d => uptoBulk d + 1
  | .map entries => uptoBulkEntries entries + 1
  | .held _ => 1
def uptoBulkAll {H : Type} : List (DataW H) → Nat
  | [] => 0
  | d :: r => uptoBulk d + uptoBulkAll r
def uptoBulkEntries {H : Type} : List (Lit × DataW H) → Nat
  | [] => 0
  | x :: r => uptoBulkEntry x + uptoBulkEntries r
def uptoBulkEntry {H : Type} : Lit × DataW H → Nat
  | (.string bytes, d) => bytes.length + uptoBulk d + 1
  | (_, d) => uptoBulk d + 1
 end
def uptoSmall : (H : Type) → List (DataW H) → Bool := fun _ ds => decide (uptoBulkAll ds ≤ 1048576)
def OpenSpec.upto (s : _root_.Go.ChangeSpec) : _root_.Go.OpenSpec := { _root_.Go.OpenSpec.ofChange s with cond := some uptoSmall }

/-- 'linenkeep.LzFewest', WHERE WHAT IT READS IS OF BULK AT MOST 1048576: true; the input reads as it did. -/
def lzFewestUptoRow : OpenClaim := { program := "ytnejhldagkennaa", sum := "98e9e0edf8c09d53758c05eeee2d76abe6883dc6bf812a280de1f6d06299457e", func := "linenpress/linenkeep.LzFewest", spec := "lzFewest", plainKeys := false, apart := false, narrowed := true }
def LzFewestUptoSaid : Prop := lzFewestUptoRow.holds Try.pinned (OpenSpec.upto lzFewestSpec)

/-- 'linenkeep.LzBack', WHERE WHAT IT READS IS OF BULK AT MOST 1048576: true; the input reads as it did. -/
def lzBackUptoRow : OpenClaim := { program := "ytnejhldagkennaa", sum := "98e9e0edf8c09d53758c05eeee2d76abe6883dc6bf812a280de1f6d06299457e", func := "linenpress/linenkeep.LzBack", spec := "lzBack", plainKeys := false, apart := false, narrowed := true }
def LzBackUptoSaid : Prop := lzBackUptoRow.holds Try.pinned (OpenSpec.upto lzBackSpec)

/-- 'linenkeep.CodeCuts', WHERE WHAT IT READS IS OF BULK AT MOST 1048576: true; the input reads as it did. -/
def codeCutsUptoRow : OpenClaim := { program := "ytnejhldagkennaa", sum := "98e9e0edf8c09d53758c05eeee2d76abe6883dc6bf812a280de1f6d06299457e", func := "linenpress/linenkeep.CodeCuts", spec := "codeCuts", plainKeys := false, apart := false, narrowed := true }
def CodeCutsUptoSaid : Prop := codeCutsUptoRow.holds Try.pinned (OpenSpec.upto codeCutsSpec)

/-- 'linenkeep.CodeOne', WHERE WHAT IT READS IS OF BULK AT MOST 1048576: true; the input reads as it did. -/
def codeOneUptoRow : OpenClaim := { program := "ytnejhldagkennaa", sum := "98e9e0edf8c09d53758c05eeee2d76abe6883dc6bf812a280de1f6d06299457e", func := "linenpress/linenkeep.CodeOne", spec := "codeOne", recurses := true, plainKeys := false, apart := false, narrowed := true }
def CodeOneUptoSaid : Prop := codeOneUptoRow.holds Try.pinned (OpenSpec.upto codeOneSpec)

/-- 'linenkeep.CodeBack', WHERE WHAT IT READS IS OF BULK AT MOST 1048576: true; the input reads as it did. -/
def codeBackUptoRow : OpenClaim := { program := "ytnejhldagkennaa", sum := "98e9e0edf8c09d53758c05eeee2d76abe6883dc6bf812a280de1f6d06299457e", func := "linenpress/linenkeep.CodeBack", spec := "codeBack", recurses := true, plainKeys := false, apart := false, narrowed := true }
def CodeBackUptoSaid : Prop := codeBackUptoRow.holds Try.pinned (OpenSpec.upto codeBackSpec)

/-- 'linenkeep.HuffOrders', WHERE WHAT IT READS IS OF BULK AT MOST 1048576: true; the input reads as it did. -/
def huffOrdersUptoRow : OpenClaim := { program := "ytnejhldagkennaa", sum := "98e9e0edf8c09d53758c05eeee2d76abe6883dc6bf812a280de1f6d06299457e", func := "linenpress/linenkeep.HuffOrders", spec := "huffOrders", unfollowed := true, recurses := true, plainKeys := false, apart := false, narrowed := true }
def HuffOrdersUptoSaid : Prop := huffOrdersUptoRow.holds Try.pinned (OpenSpec.upto huffOrdersSpec)

/-- 'linenkeep.HuffLeast', WHERE WHAT IT READS IS OF BULK AT MOST 1048576: true; the input reads as it did. -/
def huffLeastUptoRow : OpenClaim := { program := "ytnejhldagkennaa", sum := "98e9e0edf8c09d53758c05eeee2d76abe6883dc6bf812a280de1f6d06299457e", func := "linenpress/linenkeep.HuffLeast", spec := "huffLeast", unfollowed := true, recurses := true, plainKeys := false, apart := false, narrowed := true }
def HuffLeastUptoSaid : Prop := huffLeastUptoRow.holds Try.pinned (OpenSpec.upto huffLeastSpec)

/-- 'linenkeep.HuffMerges', WHERE WHAT IT READS IS OF BULK AT MOST 1048576: true; the input reads as it did. -/
def huffMergesUptoRow : OpenClaim := { program := "ytnejhldagkennaa", sum := "98e9e0edf8c09d53758c05eeee2d76abe6883dc6bf812a280de1f6d06299457e", func := "linenpress/linenkeep.HuffMerges", spec := "huffMerges", unfollowed := true, recurses := true, plainKeys := false, apart := false, narrowed := true }
def HuffMergesUptoSaid : Prop := huffMergesUptoRow.holds Try.pinned (OpenSpec.upto huffMergesSpec)

/-- 'linenkeep.HuffFlat', WHERE WHAT IT READS IS OF BULK AT MOST 1048576: true; the input reads as it did. -/
def huffFlatUptoRow : OpenClaim := { program := "ytnejhldagkennaa", sum := "98e9e0edf8c09d53758c05eeee2d76abe6883dc6bf812a280de1f6d06299457e", func := "linenpress/linenkeep.HuffFlat", spec := "huffFlat", unfollowed := true, recurses := true, plainKeys := false, apart := false, narrowed := true }
def HuffFlatUptoSaid : Prop := huffFlatUptoRow.holds Try.pinned (OpenSpec.upto huffFlatSpec)

end Rows
end Go.Proofs.Ytnejhldagkennaa
