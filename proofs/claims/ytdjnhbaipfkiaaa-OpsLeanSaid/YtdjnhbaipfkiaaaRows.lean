/-
  No cell of these rows narrows 'for every input' (looked for: loops, veiled, ifaces, maps, wideKeys, modest, calm, conditions, laid).
  DERIVED. THE GIVEN ROWS OF THIS SEAT. 11 by the template 'for every input the law returns true; each argument reads behind the call as it read before'; 0 by the template 'total and deterministic' (their statements: YtdjnhbaipfkiaaaTotals.lean).
  GIVEN WITH THE SEED: the statements are not yours to turn. If you find one false, say at which input.
  Laid BY PROGRAM, IN A SANDBOX (cutbox-rows.mjs): the forced cells as the released guide's own fill.sh prints them over the translation fb8bf9697779f08b… (all of the seat's roots in one cut). By AI agents, Wed Nov 11 2026. No macro, syntax, notation, axiom, sorry.
-/
import Derived.Test.YtdjnhbaipfkiaaaChecked
import GoSem.Claim
import GoSem.ClaimJoined
import GoSem.ClaimMapViews
import Derived.JoinedTies
import Derived.KernelRfl
namespace Go.Proofs.Ytdjnhbaipfkiaaa
/- THE CELL 'sum', in the pinned program and in every row, IS THE sha256 OF THE DUMP (.gsa) THAT YtdjnhbaipfkiaaaProg.lean LOADS. Nothing in Lean hashes anything: it is a label: what it is worth is what the hold of that sum in a sandbox is worth. -/
noncomputable def Try.pinned : Pinned := { name := "ytdjnhbaipfkiaaa", sum := "fb8bf9697779f08b1859ca849dfe0043175423d49068f5f62c8cfc4ceb860e4f", checked := Try.checked }
namespace Rows
def none {H : Type} : Left H := { results := [], args := [] }

/-- 'linenkeep.PathOrders': WHATEVER THE INPUT: true; the input reads as it did. -/
def pathOrdersSpec : ChangeSpec := { name := "pathOrders", fn := fun _ => fun
  | [d1, d2, d3] => { results := [.lit (.bool true)], args := [d1, d2, d3] }
  | _ => none }
def pathOrdersRow : OpenClaim := { program := "ytdjnhbaipfkiaaa", sum := "fb8bf9697779f08b1859ca849dfe0043175423d49068f5f62c8cfc4ceb860e4f", func := "linenpress/linenkeep.PathOrders", spec := "pathOrders", apart := false }
def PathOrdersSaid : Prop := pathOrdersRow.holds Try.pinned (OpenSpec.ofChange pathOrdersSpec)

/-- ITS FALSE NEIGHBOUR: 'it returns false'. Refute it at one input. -/
def pathOrdersWrong : ChangeSpec := { name := "pathOrders", fn := fun _ => fun
  | [d1, d2, d3] => { results := [.lit (.bool false)], args := [d1, d2, d3] }
  | _ => none }
def PathOrdersWrongFalsely : Prop := pathOrdersRow.holds Try.pinned (OpenSpec.ofChange pathOrdersWrong)

/-- 'linenkeep.DiskCrashes': WHATEVER THE INPUT: true; the input reads as it did. -/
def diskCrashesSpec : ChangeSpec := { name := "diskCrashes", fn := fun _ => fun
  | [d1, d2] => { results := [.lit (.bool true)], args := [d1, d2] }
  | _ => none }
def diskCrashesRow : OpenClaim := { program := "ytdjnhbaipfkiaaa", sum := "fb8bf9697779f08b1859ca849dfe0043175423d49068f5f62c8cfc4ceb860e4f", func := "linenpress/linenkeep.DiskCrashes", spec := "diskCrashes", unfollowed := true, recurses := true, apart := false }
def DiskCrashesSaid : Prop := diskCrashesRow.holds Try.pinned (OpenSpec.ofChange diskCrashesSpec)

/-- ITS FALSE NEIGHBOUR: 'it returns false'. Refute it at one input. -/
def diskCrashesWrong : ChangeSpec := { name := "diskCrashes", fn := fun _ => fun
  | [d1, d2] => { results := [.lit (.bool false)], args := [d1, d2] }
  | _ => none }
def DiskCrashesWrongFalsely : Prop := diskCrashesRow.holds Try.pinned (OpenSpec.ofChange diskCrashesWrong)

/-- 'linenkeep.ImapTurns': WHATEVER THE INPUT: true; the input reads as it did. -/
def imapTurnsSpec : ChangeSpec := { name := "imapTurns", fn := fun _ => fun
  | [d1, d2] => { results := [.lit (.bool true)], args := [d1, d2] }
  | _ => none }
def imapTurnsRow : OpenClaim := { program := "ytdjnhbaipfkiaaa", sum := "fb8bf9697779f08b1859ca849dfe0043175423d49068f5f62c8cfc4ceb860e4f", func := "linenpress/linenkeep.ImapTurns", spec := "imapTurns", apart := false }
def ImapTurnsSaid : Prop := imapTurnsRow.holds Try.pinned (OpenSpec.ofChange imapTurnsSpec)

/-- ITS FALSE NEIGHBOUR: 'it returns false'. Refute it at one input. -/
def imapTurnsWrong : ChangeSpec := { name := "imapTurns", fn := fun _ => fun
  | [d1, d2] => { results := [.lit (.bool false)], args := [d1, d2] }
  | _ => none }
def ImapTurnsWrongFalsely : Prop := imapTurnsRow.holds Try.pinned (OpenSpec.ofChange imapTurnsWrong)

/-- 'linenkeep.DiskSyncs': WHATEVER THE INPUT: true; the input reads as it did. -/
def diskSyncsSpec : ChangeSpec := { name := "diskSyncs", fn := fun _ => fun
  | [d1, d2, d3] => { results := [.lit (.bool true)], args := [d1, d2, d3] }
  | _ => none }
def diskSyncsRow : OpenClaim := { program := "ytdjnhbaipfkiaaa", sum := "fb8bf9697779f08b1859ca849dfe0043175423d49068f5f62c8cfc4ceb860e4f", func := "linenpress/linenkeep.DiskSyncs", spec := "diskSyncs", unfollowed := true, recurses := true, apart := false }
def DiskSyncsSaid : Prop := diskSyncsRow.holds Try.pinned (OpenSpec.ofChange diskSyncsSpec)

/-- ITS FALSE NEIGHBOUR: 'it returns false'. Refute it at one input. -/
def diskSyncsWrong : ChangeSpec := { name := "diskSyncs", fn := fun _ => fun
  | [d1, d2, d3] => { results := [.lit (.bool false)], args := [d1, d2, d3] }
  | _ => none }
def DiskSyncsWrongFalsely : Prop := diskSyncsRow.holds Try.pinned (OpenSpec.ofChange diskSyncsWrong)

/-- 'linenkeep.InodeBack': WHATEVER THE INPUT: true; the input reads as it did. -/
def inodeBackSpec : ChangeSpec := { name := "inodeBack", fn := fun _ => fun
  | [d1, d2] => { results := [.lit (.bool true)], args := [d1, d2] }
  | _ => none }
def inodeBackRow : OpenClaim := { program := "ytdjnhbaipfkiaaa", sum := "fb8bf9697779f08b1859ca849dfe0043175423d49068f5f62c8cfc4ceb860e4f", func := "linenpress/linenkeep.InodeBack", spec := "inodeBack", apart := false }
def InodeBackSaid : Prop := inodeBackRow.holds Try.pinned (OpenSpec.ofChange inodeBackSpec)

/-- ITS FALSE NEIGHBOUR: 'it returns false'. Refute it at one input. -/
def inodeBackWrong : ChangeSpec := { name := "inodeBack", fn := fun _ => fun
  | [d1, d2] => { results := [.lit (.bool false)], args := [d1, d2] }
  | _ => none }
def InodeBackWrongFalsely : Prop := inodeBackRow.holds Try.pinned (OpenSpec.ofChange inodeBackWrong)

/-- 'linenkeep.DiskReads': WHATEVER THE INPUT: true; the input reads as it did. -/
def diskReadsSpec : ChangeSpec := { name := "diskReads", fn := fun _ => fun
  | [d1, d2, d3, d4] => { results := [.lit (.bool true)], args := [d1, d2, d3, d4] }
  | _ => none }
def diskReadsRow : OpenClaim := { program := "ytdjnhbaipfkiaaa", sum := "fb8bf9697779f08b1859ca849dfe0043175423d49068f5f62c8cfc4ceb860e4f", func := "linenpress/linenkeep.DiskReads", spec := "diskReads", apart := false }
def DiskReadsSaid : Prop := diskReadsRow.holds Try.pinned (OpenSpec.ofChange diskReadsSpec)

/-- ITS FALSE NEIGHBOUR: 'it returns false'. Refute it at one input. -/
def diskReadsWrong : ChangeSpec := { name := "diskReads", fn := fun _ => fun
  | [d1, d2, d3, d4] => { results := [.lit (.bool false)], args := [d1, d2, d3, d4] }
  | _ => none }
def DiskReadsWrongFalsely : Prop := diskReadsRow.holds Try.pinned (OpenSpec.ofChange diskReadsWrong)

/-- 'linenkeep.PickMore': WHATEVER THE INPUT: true; the input reads as it did. -/
def pickMoreSpec : ChangeSpec := { name := "pickMore", fn := fun _ => fun
  | [d1, d2] => { results := [.lit (.bool true)], args := [d1, d2] }
  | _ => none }
def pickMoreRow : OpenClaim := { program := "ytdjnhbaipfkiaaa", sum := "fb8bf9697779f08b1859ca849dfe0043175423d49068f5f62c8cfc4ceb860e4f", func := "linenpress/linenkeep.PickMore", spec := "pickMore", unfollowed := true, recurses := true, apart := false }
def PickMoreSaid : Prop := pickMoreRow.holds Try.pinned (OpenSpec.ofChange pickMoreSpec)

/-- ITS FALSE NEIGHBOUR: 'it returns false'. Refute it at one input. -/
def pickMoreWrong : ChangeSpec := { name := "pickMore", fn := fun _ => fun
  | [d1, d2] => { results := [.lit (.bool false)], args := [d1, d2] }
  | _ => none }
def PickMoreWrongFalsely : Prop := pickMoreRow.holds Try.pinned (OpenSpec.ofChange pickMoreWrong)

/-- 'linenkeep.ImapBack': WHATEVER THE INPUT: true; the input reads as it did. -/
def imapBackSpec : ChangeSpec := { name := "imapBack", fn := fun _ => fun
  | [d1, d2] => { results := [.lit (.bool true)], args := [d1, d2] }
  | _ => none }
def imapBackRow : OpenClaim := { program := "ytdjnhbaipfkiaaa", sum := "fb8bf9697779f08b1859ca849dfe0043175423d49068f5f62c8cfc4ceb860e4f", func := "linenpress/linenkeep.ImapBack", spec := "imapBack", apart := false }
def ImapBackSaid : Prop := imapBackRow.holds Try.pinned (OpenSpec.ofChange imapBackSpec)

/-- ITS FALSE NEIGHBOUR: 'it returns false'. Refute it at one input. -/
def imapBackWrong : ChangeSpec := { name := "imapBack", fn := fun _ => fun
  | [d1, d2] => { results := [.lit (.bool false)], args := [d1, d2] }
  | _ => none }
def ImapBackWrongFalsely : Prop := imapBackRow.holds Try.pinned (OpenSpec.ofChange imapBackWrong)

/-- 'linenkeep.OpsLean': WHATEVER THE INPUT: true; the input reads as it did. -/
def opsLeanSpec : ChangeSpec := { name := "opsLean", fn := fun _ => fun
  | [d1, d2] => { results := [.lit (.bool true)], args := [d1, d2] }
  | _ => none }
def opsLeanRow : OpenClaim := { program := "ytdjnhbaipfkiaaa", sum := "fb8bf9697779f08b1859ca849dfe0043175423d49068f5f62c8cfc4ceb860e4f", func := "linenpress/linenkeep.OpsLean", spec := "opsLean", unfollowed := true, recurses := true, apart := false }
def OpsLeanSaid : Prop := opsLeanRow.holds Try.pinned (OpenSpec.ofChange opsLeanSpec)

/-- ITS FALSE NEIGHBOUR: 'it returns false'. Refute it at one input. -/
def opsLeanWrong : ChangeSpec := { name := "opsLean", fn := fun _ => fun
  | [d1, d2] => { results := [.lit (.bool false)], args := [d1, d2] }
  | _ => none }
def OpsLeanWrongFalsely : Prop := opsLeanRow.holds Try.pinned (OpenSpec.ofChange opsLeanWrong)

/-- 'linenkeep.OpsJoins': WHATEVER THE INPUT: true; the input reads as it did. -/
def opsJoinsSpec : ChangeSpec := { name := "opsJoins", fn := fun _ => fun
  | [d1, d2, d3] => { results := [.lit (.bool true)], args := [d1, d2, d3] }
  | _ => none }
def opsJoinsRow : OpenClaim := { program := "ytdjnhbaipfkiaaa", sum := "fb8bf9697779f08b1859ca849dfe0043175423d49068f5f62c8cfc4ceb860e4f", func := "linenpress/linenkeep.OpsJoins", spec := "opsJoins", unfollowed := true, recurses := true, apart := false }
def OpsJoinsSaid : Prop := opsJoinsRow.holds Try.pinned (OpenSpec.ofChange opsJoinsSpec)

/-- ITS FALSE NEIGHBOUR: 'it returns false'. Refute it at one input. -/
def opsJoinsWrong : ChangeSpec := { name := "opsJoins", fn := fun _ => fun
  | [d1, d2, d3] => { results := [.lit (.bool false)], args := [d1, d2, d3] }
  | _ => none }
def OpsJoinsWrongFalsely : Prop := opsJoinsRow.holds Try.pinned (OpenSpec.ofChange opsJoinsWrong)

/-- 'linenkeep.OpsCrash': WHATEVER THE INPUT: true; the input reads as it did. -/
def opsCrashSpec : ChangeSpec := { name := "opsCrash", fn := fun _ => fun
  | [d1, d2, d3, d4] => { results := [.lit (.bool true)], args := [d1, d2, d3, d4] }
  | _ => none }
def opsCrashRow : OpenClaim := { program := "ytdjnhbaipfkiaaa", sum := "fb8bf9697779f08b1859ca849dfe0043175423d49068f5f62c8cfc4ceb860e4f", func := "linenpress/linenkeep.OpsCrash", spec := "opsCrash", unfollowed := true, recurses := true, apart := false }
def OpsCrashSaid : Prop := opsCrashRow.holds Try.pinned (OpenSpec.ofChange opsCrashSpec)

/-- ITS FALSE NEIGHBOUR: 'it returns false'. Refute it at one input. -/
def opsCrashWrong : ChangeSpec := { name := "opsCrash", fn := fun _ => fun
  | [d1, d2, d3, d4] => { results := [.lit (.bool false)], args := [d1, d2, d3, d4] }
  | _ => none }
def OpsCrashWrongFalsely : Prop := opsCrashRow.holds Try.pinned (OpenSpec.ofChange opsCrashWrong)

/- THE SECOND FORM. 'bulk': how many values and letters a reading holds, each counted each time it is reached (what is shared counts as often as it is met; a slice's spare places count too). A statement '..UptoSaid' is the law's where the arguments, and the package variables that the reading takes, are together of bulk at most 1048576: NARROWER than '..Said'. Prove '..Said' where nothing that the law and all that it calls make is longer than what came in: it says more and counts as full. Else prove '..UptoSaid'. A law counts once. -/
mutual
def uptoBulk {H : Type} : DataW H → Nat
  | .lit (.string bytes) => bytes.length + 1
  | .lit _ => 1
  | .nil => 1
  | .ptr d => uptoBulk d + 1
  | .slice elems spare => uptoBulkAll elems + uptoBulkAll spare + 1
  | .agg parts => uptoBulkAll parts + 1
  | .iface _ d => uptoBulk d + 1
  | .map entries => uptoBulkEntries entries + 1
  | .held _ => 1
def uptoBulkAll {H : Type} : List (DataW H) → Nat
  | [] => 0
  | d :: r => uptoBulk d + uptoBulkAll r
def uptoBulkEntries {H : Type} : List (Lit × DataW H) → Nat
  | [] => 0
  | x :: r => uptoBulkEntry x + uptoBulkEntries r
def uptoBulkEntry {H : Type} : Lit × DataW H → Nat
  | (.string bytes, d) => bytes.length + uptoBulk d + 1
  | (_, d) => uptoBulk d + 1
 end
def uptoSmall : (H : Type) → List (DataW H) → Bool := fun _ ds => decide (uptoBulkAll ds ≤ 1048576)
def OpenSpec.upto (s : _root_.Go.ChangeSpec) : _root_.Go.OpenSpec := { _root_.Go.OpenSpec.ofChange s with cond := some uptoSmall }

/-- 'linenkeep.PathOrders', WHERE WHAT IT READS IS OF BULK AT MOST 1048576: true; the input reads as it did. -/
def pathOrdersUptoRow : OpenClaim := { program := "ytdjnhbaipfkiaaa", sum := "fb8bf9697779f08b1859ca849dfe0043175423d49068f5f62c8cfc4ceb860e4f", func := "linenpress/linenkeep.PathOrders", spec := "pathOrders", apart := false, narrowed := true }
def PathOrdersUptoSaid : Prop := pathOrdersUptoRow.holds Try.pinned (OpenSpec.upto pathOrdersSpec)

/-- 'linenkeep.DiskCrashes', WHERE WHAT IT READS IS OF BULK AT MOST 1048576: true; the input reads as it did. -/
def diskCrashesUptoRow : OpenClaim := { program := "ytdjnhbaipfkiaaa", sum := "fb8bf9697779f08b1859ca849dfe0043175423d49068f5f62c8cfc4ceb860e4f", func := "linenpress/linenkeep.DiskCrashes", spec := "diskCrashes", unfollowed := true, recurses := true, apart := false, narrowed := true }
def DiskCrashesUptoSaid : Prop := diskCrashesUptoRow.holds Try.pinned (OpenSpec.upto diskCrashesSpec)

/-- 'linenkeep.ImapTurns', WHERE WHAT IT READS IS OF BULK AT MOST 1048576: true; the input reads as it did. -/
def imapTurnsUptoRow : OpenClaim := { program := "ytdjnhbaipfkiaaa", sum := "fb8bf9697779f08b1859ca849dfe0043175423d49068f5f62c8cfc4ceb860e4f", func := "linenpress/linenkeep.ImapTurns", spec := "imapTurns", apart := false, narrowed := true }
def ImapTurnsUptoSaid : Prop := imapTurnsUptoRow.holds Try.pinned (OpenSpec.upto imapTurnsSpec)

/-- 'linenkeep.DiskSyncs', WHERE WHAT IT READS IS OF BULK AT MOST 1048576: true; the input reads as it did. -/
def diskSyncsUptoRow : OpenClaim := { program := "ytdjnhbaipfkiaaa", sum := "fb8bf9697779f08b1859ca849dfe0043175423d49068f5f62c8cfc4ceb860e4f", func := "linenpress/linenkeep.DiskSyncs", spec := "diskSyncs", unfollowed := true, recurses := true, apart := false, narrowed := true }
def DiskSyncsUptoSaid : Prop := diskSyncsUptoRow.holds Try.pinned (OpenSpec.upto diskSyncsSpec)

/-- 'linenkeep.InodeBack', WHERE WHAT IT READS IS OF BULK AT MOST 1048576: true; the input reads as it did. -/
def inodeBackUptoRow : OpenClaim := { program := "ytdjnhbaipfkiaaa", sum := "fb8bf9697779f08b1859ca849dfe0043175423d49068f5f62c8cfc4ceb860e4f", func := "linenpress/linenkeep.InodeBack", spec := "inodeBack", apart := false, narrowed := true }
def InodeBackUptoSaid : Prop := inodeBackUptoRow.holds Try.pinned (OpenSpec.upto inodeBackSpec)

/-- 'linenkeep.DiskReads', WHERE WHAT IT READS IS OF BULK AT MOST 1048576: true; the input reads as it did. -/
def diskReadsUptoRow : OpenClaim := { program := "ytdjnhbaipfkiaaa", sum := "fb8bf9697779f08b1859ca849dfe0043175423d49068f5f62c8cfc4ceb860e4f", func := "linenpress/linenkeep.DiskReads", spec := "diskReads", apart := false, narrowed := true }
def DiskReadsUptoSaid : Prop := diskReadsUptoRow.holds Try.pinned (OpenSpec.upto diskReadsSpec)

/-- 'linenkeep.PickMore', WHERE WHAT IT READS IS OF BULK AT MOST 1048576: true; the input reads as it did. -/
def pickMoreUptoRow : OpenClaim := { program := "ytdjnhbaipfkiaaa", sum := "fb8bf9697779f08b1859ca849dfe0043175423d49068f5f62c8cfc4ceb860e4f", func := "linenpress/linenkeep.PickMore", spec := "pickMore", unfollowed := true, recurses := true, apart := false, narrowed := true }
def PickMoreUptoSaid : Prop := pickMoreUptoRow.holds Try.pinned (OpenSpec.upto pickMoreSpec)

/-- 'linenkeep.ImapBack', WHERE WHAT IT READS IS OF BULK AT MOST 1048576: true; the input reads as it did. -/
def imapBackUptoRow : OpenClaim := { program := "ytdjnhbaipfkiaaa", sum := "fb8bf9697779f08b1859ca849dfe0043175423d49068f5f62c8cfc4ceb860e4f", func := "linenpress/linenkeep.ImapBack", spec := "imapBack", apart := false, narrowed := true }
def ImapBackUptoSaid : Prop := imapBackUptoRow.holds Try.pinned (OpenSpec.upto imapBackSpec)

/-- 'linenkeep.OpsLean', WHERE WHAT IT READS IS OF BULK AT MOST 1048576: true; the input reads as it did. -/
def opsLeanUptoRow : OpenClaim := { program := "ytdjnhbaipfkiaaa", sum := "fb8bf9697779f08b1859ca849dfe0043175423d49068f5f62c8cfc4ceb860e4f", func := "linenpress/linenkeep.OpsLean", spec := "opsLean", unfollowed := true, recurses := true, apart := false, narrowed := true }
def OpsLeanUptoSaid : Prop := opsLeanUptoRow.holds Try.pinned (OpenSpec.upto opsLeanSpec)

/-- 'linenkeep.OpsJoins', WHERE WHAT IT READS IS OF BULK AT MOST 1048576: true; the input reads as it did. -/
def opsJoinsUptoRow : OpenClaim := { program := "ytdjnhbaipfkiaaa", sum := "fb8bf9697779f08b1859ca849dfe0043175423d49068f5f62c8cfc4ceb860e4f", func := "linenpress/linenkeep.OpsJoins", spec := "opsJoins", unfollowed := true, recurses := true, apart := false, narrowed := true }
def OpsJoinsUptoSaid : Prop := opsJoinsUptoRow.holds Try.pinned (OpenSpec.upto opsJoinsSpec)

/-- 'linenkeep.OpsCrash', WHERE WHAT IT READS IS OF BULK AT MOST 1048576: true; the input reads as it did. -/
def opsCrashUptoRow : OpenClaim := { program := "ytdjnhbaipfkiaaa", sum := "fb8bf9697779f08b1859ca849dfe0043175423d49068f5f62c8cfc4ceb860e4f", func := "linenpress/linenkeep.OpsCrash", spec := "opsCrash", unfollowed := true, recurses := true, apart := false, narrowed := true }
def OpsCrashUptoSaid : Prop := opsCrashUptoRow.holds Try.pinned (OpenSpec.upto opsCrashSpec)

end Rows
end Go.Proofs.Ytdjnhbaipfkiaaa
