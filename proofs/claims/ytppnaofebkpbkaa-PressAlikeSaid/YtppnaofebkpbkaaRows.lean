/-
  No cell of these rows narrows 'for every input' (looked for: loops, veiled, ifaces, maps, wideKeys, modest, calm, conditions, laid).
  DERIVED. THE GIVEN ROWS OF THIS SEAT. 5 by the template 'for every input the law returns true; each argument reads behind the call as it read before'; 0 by the template 'total and deterministic' (their statements: YtppnaofebkpbkaaTotals.lean).
  GIVEN WITH THE SEED: the statements are not yours to turn. If you find one false, say at which input.
  Laid BY PROGRAM, IN A SANDBOX (cutbox-rows.mjs): the forced cells as the released guide's own fill.sh prints them over the translation 7edf2eb08d9091d8… (all of the seat's roots in one cut). By AI agents, Wed Nov 11 2026. No macro, syntax, notation, axiom, sorry.
-/
import Derived.Test.YtppnaofebkpbkaaChecked
import GoSem.Claim
import GoSem.ClaimJoined
import GoSem.ClaimMapViews
import Derived.JoinedTies
import Derived.KernelRfl
namespace Go.Proofs.Ytppnaofebkpbkaa
/- THE CELL 'sum', in the pinned program and in every row, IS THE sha256 OF THE DUMP (.gsa) THAT YtppnaofebkpbkaaProg.lean LOADS. Nothing in Lean hashes anything: it is a label: what it is worth is what the hold of that sum in a sandbox is worth. -/
noncomputable def Try.pinned : Pinned := { name := "ytppnaofebkpbkaa", sum := "7edf2eb08d9091d8e700d62350c62cf78050627fc3f5518484d23a892fcedbab", checked := Try.checked }
namespace Rows
def none {H : Type} : Left H := { results := [], args := [] }

/-- 'linenkeep.HuffLeast': WHATEVER THE INPUT: true; the input reads as it did. -/
def huffLeastSpec : ChangeSpec := { name := "huffLeast", fn := fun _ => fun
  | [d1, d2] => { results := [.lit (.bool true)], args := [d1, d2] }
  | _ => none }
def huffLeastRow : OpenClaim := { program := "ytppnaofebkpbkaa", sum := "7edf2eb08d9091d8e700d62350c62cf78050627fc3f5518484d23a892fcedbab", func := "linenpress/linenkeep.HuffLeast", spec := "huffLeast", unfollowed := true, recurses := true, plainKeys := false, apart := false }
def HuffLeastSaid : Prop := huffLeastRow.holds Try.pinned (OpenSpec.ofChange huffLeastSpec)

/-- ITS FALSE NEIGHBOUR: 'it returns false'. Refute it at one input. -/
def huffLeastWrong : ChangeSpec := { name := "huffLeast", fn := fun _ => fun
  | [d1, d2] => { results := [.lit (.bool false)], args := [d1, d2] }
  | _ => none }
def HuffLeastWrongFalsely : Prop := huffLeastRow.holds Try.pinned (OpenSpec.ofChange huffLeastWrong)

/-- 'linenkeep.HuffMerges': WHATEVER THE INPUT: true; the input reads as it did. -/
def huffMergesSpec : ChangeSpec := { name := "huffMerges", fn := fun _ => fun
  | [d] => { results := [.lit (.bool true)], args := [d] }
  | _ => none }
def huffMergesRow : OpenClaim := { program := "ytppnaofebkpbkaa", sum := "7edf2eb08d9091d8e700d62350c62cf78050627fc3f5518484d23a892fcedbab", func := "linenpress/linenkeep.HuffMerges", spec := "huffMerges", unfollowed := true, recurses := true, plainKeys := false, apart := false }
def HuffMergesSaid : Prop := huffMergesRow.holds Try.pinned (OpenSpec.ofChange huffMergesSpec)

/-- ITS FALSE NEIGHBOUR: 'it returns false'. Refute it at one input. -/
def huffMergesWrong : ChangeSpec := { name := "huffMerges", fn := fun _ => fun
  | [d] => { results := [.lit (.bool false)], args := [d] }
  | _ => none }
def HuffMergesWrongFalsely : Prop := huffMergesRow.holds Try.pinned (OpenSpec.ofChange huffMergesWrong)

/-- 'linenkeep.PressShort': WHATEVER THE INPUT: true; the input reads as it did. -/
def pressShortSpec : ChangeSpec := { name := "pressShort", fn := fun _ => fun
  | [d1, d2] => { results := [.lit (.bool true)], args := [d1, d2] }
  | _ => none }
def pressShortRow : OpenClaim := { program := "ytppnaofebkpbkaa", sum := "7edf2eb08d9091d8e700d62350c62cf78050627fc3f5518484d23a892fcedbab", func := "linenpress/linenkeep.PressShort", spec := "pressShort", inPlace := ["internal/bytealg.CountString", "internal/bytealg.IndexByteString", "internal/bytealg.IndexString"], unfollowed := true, recurses := true, named := ["internal/bytealg.MaxLen"], plainKeys := false, apart := false }
def PressShortSaid : Prop := pressShortRow.holds Try.pinned (OpenSpec.ofChange pressShortSpec)

/-- ITS FALSE NEIGHBOUR: 'it returns false'. Refute it at one input. -/
def pressShortWrong : ChangeSpec := { name := "pressShort", fn := fun _ => fun
  | [d1, d2] => { results := [.lit (.bool false)], args := [d1, d2] }
  | _ => none }
def PressShortWrongFalsely : Prop := pressShortRow.holds Try.pinned (OpenSpec.ofChange pressShortWrong)

/-- 'linenkeep.PressBack': WHATEVER THE INPUT: true; the input reads as it did. -/
def pressBackSpec : ChangeSpec := { name := "pressBack", fn := fun _ => fun
  | [d] => { results := [.lit (.bool true)], args := [d] }
  | _ => none }
def pressBackRow : OpenClaim := { program := "ytppnaofebkpbkaa", sum := "7edf2eb08d9091d8e700d62350c62cf78050627fc3f5518484d23a892fcedbab", func := "linenpress/linenkeep.PressBack", spec := "pressBack", inPlace := ["internal/bytealg.CountString", "internal/bytealg.IndexByteString", "internal/bytealg.IndexString", "internal/abi.NoEscape", "internal/bytealg.MakeNoZero"], unfollowed := true, recurses := true, named := ["internal/bytealg.MaxLen"], plainKeys := false, apart := false }
def PressBackSaid : Prop := pressBackRow.holds Try.pinned (OpenSpec.ofChange pressBackSpec)

/-- ITS FALSE NEIGHBOUR: 'it returns false'. Refute it at one input. -/
def pressBackWrong : ChangeSpec := { name := "pressBack", fn := fun _ => fun
  | [d] => { results := [.lit (.bool false)], args := [d] }
  | _ => none }
def PressBackWrongFalsely : Prop := pressBackRow.holds Try.pinned (OpenSpec.ofChange pressBackWrong)

/-- 'linenkeep.PressAlike': WHATEVER THE INPUT: true; the input reads as it did. -/
def pressAlikeSpec : ChangeSpec := { name := "pressAlike", fn := fun _ => fun
  | [d1, d2] => { results := [.lit (.bool true)], args := [d1, d2] }
  | _ => none }
def pressAlikeRow : OpenClaim := { program := "ytppnaofebkpbkaa", sum := "7edf2eb08d9091d8e700d62350c62cf78050627fc3f5518484d23a892fcedbab", func := "linenpress/linenkeep.PressAlike", spec := "pressAlike", inPlace := ["internal/bytealg.CountString", "internal/bytealg.IndexByteString", "internal/bytealg.IndexString", "internal/abi.NoEscape", "internal/bytealg.MakeNoZero"], unfollowed := true, recurses := true, named := ["internal/bytealg.MaxLen"], plainKeys := false, apart := false }
def PressAlikeSaid : Prop := pressAlikeRow.holds Try.pinned (OpenSpec.ofChange pressAlikeSpec)

/-- ITS FALSE NEIGHBOUR: 'it returns false'. Refute it at one input. -/
def pressAlikeWrong : ChangeSpec := { name := "pressAlike", fn := fun _ => fun
  | [d1, d2] => { results := [.lit (.bool false)], args := [d1, d2] }
  | _ => none }
def PressAlikeWrongFalsely : Prop := pressAlikeRow.holds Try.pinned (OpenSpec.ofChange pressAlikeWrong)

/- THE SECOND FORM. 'bulk': how many values and letters a reading holds, each counted each time it is reached (what is shared counts as often as it is met; a slice's spare places count too). A statement '..UptoSaid' is the law's where the arguments, and the package variables that the reading takes, are together of bulk at most 1048576: NARROWER than '..Said'. Prove '..Said' where nothing that the law and all that it calls make is longer than what came in: it says more and counts as full. Else prove '..UptoSaid'. A law counts once. -/
mutual
def uptoBulk {H : Type} : DataW H → Nat
  | .lit (.string bytes) => bytes.length + 1
  | .lit _ => 1
  | .nil => 1
  | .ptr d => uptoBulk d + 1
  | .slice elems spare => uptoBulkAll elems + uptoBulkAll spare + 1
  | .agg parts => uptoBulkAll parts + 1
  | .iface _ d => uptoBulk d + 1
  | .map entries => uptoBulkEntries entries + 1
  | .held _ => 1
def uptoBulkAll {H : Type} : List (DataW H) → Nat
  | [] => 0
  | d :: r => uptoBulk d + uptoBulkAll r
def uptoBulkEntries {H : Type} : List (Lit × DataW H) → Nat
  | [] => 0
  | x :: r => uptoBulkEntry x + uptoBulkEntries r
def uptoBulkEntry {H : Type} : Lit × DataW H → Nat
  | (.string bytes, d) => bytes.length + uptoBulk d + 1
  | (_, d) => uptoBulk d + 1
 end
def uptoSmall : (H : Type) → List (DataW H) → Bool := fun _ ds => decide (uptoBulkAll ds ≤ 1048576)
def OpenSpec.upto (s : _root_.Go.ChangeSpec) : _root_.Go.OpenSpec := { _root_.Go.OpenSpec.ofChange s with cond := some uptoSmall }

/-- 'linenkeep.HuffLeast', WHERE WHAT IT READS IS OF BULK AT MOST 1048576: true; the input reads as it did. -/
def huffLeastUptoRow : OpenClaim := { program := "ytppnaofebkpbkaa", sum := "7edf2eb08d9091d8e700d62350c62cf78050627fc3f5518484d23a892fcedbab", func := "linenpress/linenkeep.HuffLeast", spec := "huffLeast", unfollowed := true, recurses := true, plainKeys := false, apart := false, narrowed := true }
def HuffLeastUptoSaid : Prop := huffLeastUptoRow.holds Try.pinned (OpenSpec.upto huffLeastSpec)

/-- 'linenkeep.HuffMerges', WHERE WHAT IT READS IS OF BULK AT MOST 1048576: true; the input reads as it did. -/
def huffMergesUptoRow : OpenClaim := { program := "ytppnaofebkpbkaa", sum := "7edf2eb08d9091d8e700d62350c62cf78050627fc3f5518484d23a892fcedbab", func := "linenpress/linenkeep.HuffMerges", spec := "huffMerges", unfollowed := true, recurses := true, plainKeys := false, apart := false, narrowed := true }
def HuffMergesUptoSaid : Prop := huffMergesUptoRow.holds Try.pinned (OpenSpec.upto huffMergesSpec)

/-- 'linenkeep.PressShort', WHERE WHAT IT READS IS OF BULK AT MOST 1048576: true; the input reads as it did. -/
def pressShortUptoRow : OpenClaim := { program := "ytppnaofebkpbkaa", sum := "7edf2eb08d9091d8e700d62350c62cf78050627fc3f5518484d23a892fcedbab", func := "linenpress/linenkeep.PressShort", spec := "pressShort", inPlace := ["internal/bytealg.CountString", "internal/bytealg.IndexByteString", "internal/bytealg.IndexString"], unfollowed := true, recurses := true, named := ["internal/bytealg.MaxLen"], plainKeys := false, apart := false, narrowed := true }
def PressShortUptoSaid : Prop := pressShortUptoRow.holds Try.pinned (OpenSpec.upto pressShortSpec)

/-- 'linenkeep.PressBack', WHERE WHAT IT READS IS OF BULK AT MOST 1048576: true; the input reads as it did. -/
def pressBackUptoRow : OpenClaim := { program := "ytppnaofebkpbkaa", sum := "7edf2eb08d9091d8e700d62350c62cf78050627fc3f5518484d23a892fcedbab", func := "linenpress/linenkeep.PressBack", spec := "pressBack", inPlace := ["internal/bytealg.CountString", "internal/bytealg.IndexByteString", "internal/bytealg.IndexString", "internal/abi.NoEscape", "internal/bytealg.MakeNoZero"], unfollowed := true, recurses := true, named := ["internal/bytealg.MaxLen"], plainKeys := false, apart := false, narrowed := true }
def PressBackUptoSaid : Prop := pressBackUptoRow.holds Try.pinned (OpenSpec.upto pressBackSpec)

/-- 'linenkeep.PressAlike', WHERE WHAT IT READS IS OF BULK AT MOST 1048576: true; the input reads as it did. -/
def pressAlikeUptoRow : OpenClaim := { program := "ytppnaofebkpbkaa", sum := "7edf2eb08d9091d8e700d62350c62cf78050627fc3f5518484d23a892fcedbab", func := "linenpress/linenkeep.PressAlike", spec := "pressAlike", inPlace := ["internal/bytealg.CountString", "internal/bytealg.IndexByteString", "internal/bytealg.IndexString", "internal/abi.NoEscape", "internal/bytealg.MakeNoZero"], unfollowed := true, recurses := true, named := ["internal/bytealg.MaxLen"], plainKeys := false, apart := false, narrowed := true }
def PressAlikeUptoSaid : Prop := pressAlikeUptoRow.holds Try.pinned (OpenSpec.upto pressAlikeSpec)

end Rows
end Go.Proofs.Ytppnaofebkpbkaa
