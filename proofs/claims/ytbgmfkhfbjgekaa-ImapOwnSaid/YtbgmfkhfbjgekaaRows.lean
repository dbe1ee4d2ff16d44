/-
  No cell of these rows narrows 'for every input' (looked for: loops, veiled, ifaces, maps, wideKeys, modest, calm, conditions, laid).
  DERIVED. THE GIVEN ROWS OF THIS SEAT. 15 by the template 'for every input the law returns true; each argument reads behind the call as it read before'; 0 by the template 'total and deterministic' (their statements: YtbgmfkhfbjgekaaTotals.lean).
  GIVEN WITH THE SEED: the statements are not yours to turn. If you find one false, say at which input.
  Laid BY PROGRAM, IN A SANDBOX (cutbox-rows.mjs): the forced cells as the released guide's own fill.sh prints them over the translation 9be4faa47f29d92e… (all of the seat's roots in one cut). By AI agents, Wed Nov 11 2026. No macro, syntax, notation, axiom, sorry.
-/
import Derived.Test.YtbgmfkhfbjgekaaChecked
import GoSem.Claim
import GoSem.ClaimJoined
import GoSem.ClaimMapViews
import Derived.JoinedTies
import Derived.KernelRfl
namespace Go.Proofs.Ytbgmfkhfbjgekaa
/- THE CELL 'sum', in the pinned program and in every row, IS THE sha256 OF THE DUMP (.gsa) THAT YtbgmfkhfbjgekaaProg.lean LOADS. Nothing in Lean hashes anything: it is a label: what it is worth is what the hold of that sum in a sandbox is worth. -/
noncomputable def Try.pinned : Pinned := { name := "ytbgmfkhfbjgekaa", sum := "9be4faa47f29d92e809bf9b2464c9251c9dd1e258f868775ceafb3bbce597bff", checked := Try.checked }
namespace Rows
def none {H : Type} : Left H := { results := [], args := [] }

/-- 'linenkeep.ImapOwn': WHATEVER THE INPUT: true; the input reads as it did. -/
def imapOwnSpec : ChangeSpec := { name := "imapOwn", fn := fun _ => fun
  | [d1, d2, d3] => { results := [.lit (.bool true)], args := [d1, d2, d3] }
  | _ => none }
def imapOwnRow : OpenClaim := { program := "ytbgmfkhfbjgekaa", sum := "9be4faa47f29d92e809bf9b2464c9251c9dd1e258f868775ceafb3bbce597bff", func := "linenpress/linenkeep.ImapOwn", spec := "imapOwn", plainKeys := false, apart := false }
def ImapOwnSaid : Prop := imapOwnRow.holds Try.pinned (OpenSpec.ofChange imapOwnSpec)

/-- ITS FALSE NEIGHBOUR: 'it returns false'. Refute it at one input. -/
def imapOwnWrong : ChangeSpec := { name := "imapOwn", fn := fun _ => fun
  | [d1, d2, d3] => { results := [.lit (.bool false)], args := [d1, d2, d3] }
  | _ => none }
def ImapOwnWrongFalsely : Prop := imapOwnRow.holds Try.pinned (OpenSpec.ofChange imapOwnWrong)

/-- 'linenkeep.LzFewest': WHATEVER THE INPUT: true; the input reads as it did. -/
def lzFewestSpec : ChangeSpec := { name := "lzFewest", fn := fun _ => fun
  | [d] => { results := [.lit (.bool true)], args := [d] }
  | _ => none }
def lzFewestRow : OpenClaim := { program := "ytbgmfkhfbjgekaa", sum := "9be4faa47f29d92e809bf9b2464c9251c9dd1e258f868775ceafb3bbce597bff", func := "linenpress/linenkeep.LzFewest", spec := "lzFewest", plainKeys := false, apart := false }
def LzFewestSaid : Prop := lzFewestRow.holds Try.pinned (OpenSpec.ofChange lzFewestSpec)

/-- ITS FALSE NEIGHBOUR: 'it returns false'. Refute it at one input. -/
def lzFewestWrong : ChangeSpec := { name := "lzFewest", fn := fun _ => fun
  | [d] => { results := [.lit (.bool false)], args := [d] }
  | _ => none }
def LzFewestWrongFalsely : Prop := lzFewestRow.holds Try.pinned (OpenSpec.ofChange lzFewestWrong)

/-- 'linenkeep.PickMore': WHATEVER THE INPUT: true; the input reads as it did. -/
def pickMoreSpec : ChangeSpec := { name := "pickMore", fn := fun _ => fun
  | [d1, d2] => { results := [.lit (.bool true)], args := [d1, d2] }
  | _ => none }
def pickMoreRow : OpenClaim := { program := "ytbgmfkhfbjgekaa", sum := "9be4faa47f29d92e809bf9b2464c9251c9dd1e258f868775ceafb3bbce597bff", func := "linenpress/linenkeep.PickMore", spec := "pickMore", unfollowed := true, recurses := true, plainKeys := false, apart := false }
def PickMoreSaid : Prop := pickMoreRow.holds Try.pinned (OpenSpec.ofChange pickMoreSpec)

/-- ITS FALSE NEIGHBOUR: 'it returns false'. Refute it at one input. -/
def pickMoreWrong : ChangeSpec := { name := "pickMore", fn := fun _ => fun
  | [d1, d2] => { results := [.lit (.bool false)], args := [d1, d2] }
  | _ => none }
def PickMoreWrongFalsely : Prop := pickMoreRow.holds Try.pinned (OpenSpec.ofChange pickMoreWrong)

/-- 'linenkeep.LzBack': WHATEVER THE INPUT: true; the input reads as it did. -/
def lzBackSpec : ChangeSpec := { name := "lzBack", fn := fun _ => fun
  | [d] => { results := [.lit (.bool true)], args := [d] }
  | _ => none }
def lzBackRow : OpenClaim := { program := "ytbgmfkhfbjgekaa", sum := "9be4faa47f29d92e809bf9b2464c9251c9dd1e258f868775ceafb3bbce597bff", func := "linenpress/linenkeep.LzBack", spec := "lzBack", plainKeys := false, apart := false }
def LzBackSaid : Prop := lzBackRow.holds Try.pinned (OpenSpec.ofChange lzBackSpec)

/-- ITS FALSE NEIGHBOUR: 'it returns false'. Refute it at one input. -/
def lzBackWrong : ChangeSpec := { name := "lzBack", fn := fun _ => fun
  | [d] => { results := [.lit (.bool false)], args := [d] }
  | _ => none }
def LzBackWrongFalsely : Prop := lzBackRow.holds Try.pinned (OpenSpec.ofChange lzBackWrong)

/-- 'linenkeep.DiskOwn': WHATEVER THE INPUT: true; the input reads as it did. -/
def diskOwnSpec : ChangeSpec := { name := "diskOwn", fn := fun _ => fun
  | [d1, d2, d3, d4] => { results := [.lit (.bool true)], args := [d1, d2, d3, d4] }
  | _ => none }
def diskOwnRow : OpenClaim := { program := "ytbgmfkhfbjgekaa", sum := "9be4faa47f29d92e809bf9b2464c9251c9dd1e258f868775ceafb3bbce597bff", func := "linenpress/linenkeep.DiskOwn", spec := "diskOwn", unfollowed := true, recurses := true, plainKeys := false, apart := false }
def DiskOwnSaid : Prop := diskOwnRow.holds Try.pinned (OpenSpec.ofChange diskOwnSpec)

/-- ITS FALSE NEIGHBOUR: 'it returns false'. Refute it at one input. -/
def diskOwnWrong : ChangeSpec := { name := "diskOwn", fn := fun _ => fun
  | [d1, d2, d3, d4] => { results := [.lit (.bool false)], args := [d1, d2, d3, d4] }
  | _ => none }
def DiskOwnWrongFalsely : Prop := diskOwnRow.holds Try.pinned (OpenSpec.ofChange diskOwnWrong)

/-- 'linenkeep.BlobSplit': WHATEVER THE INPUT: true; the input reads as it did. -/
def blobSplitSpec : ChangeSpec := { name := "blobSplit", fn := fun _ => fun
  | [d] => { results := [.lit (.bool true)], args := [d] }
  | _ => none }
def blobSplitRow : OpenClaim := { program := "ytbgmfkhfbjgekaa", sum := "9be4faa47f29d92e809bf9b2464c9251c9dd1e258f868775ceafb3bbce597bff", func := "linenpress/linenkeep.BlobSplit", spec := "blobSplit", recurses := true, plainKeys := false, apart := false }
def BlobSplitSaid : Prop := blobSplitRow.holds Try.pinned (OpenSpec.ofChange blobSplitSpec)

/-- ITS FALSE NEIGHBOUR: 'it returns false'. Refute it at one input. -/
def blobSplitWrong : ChangeSpec := { name := "blobSplit", fn := fun _ => fun
  | [d] => { results := [.lit (.bool false)], args := [d] }
  | _ => none }
def BlobSplitWrongFalsely : Prop := blobSplitRow.holds Try.pinned (OpenSpec.ofChange blobSplitWrong)

/-- 'linenkeep.OpsOwn': WHATEVER THE INPUT: true; the input reads as it did. -/
def opsOwnSpec : ChangeSpec := { name := "opsOwn", fn := fun _ => fun
  | [d1, d2] => { results := [.lit (.bool true)], args := [d1, d2] }
  | _ => none }
def opsOwnRow : OpenClaim := { program := "ytbgmfkhfbjgekaa", sum := "9be4faa47f29d92e809bf9b2464c9251c9dd1e258f868775ceafb3bbce597bff", func := "linenpress/linenkeep.OpsOwn", spec := "opsOwn", unfollowed := true, recurses := true, plainKeys := false, apart := false }
def OpsOwnSaid : Prop := opsOwnRow.holds Try.pinned (OpenSpec.ofChange opsOwnSpec)

/-- ITS FALSE NEIGHBOUR: 'it returns false'. Refute it at one input. -/
def opsOwnWrong : ChangeSpec := { name := "opsOwn", fn := fun _ => fun
  | [d1, d2] => { results := [.lit (.bool false)], args := [d1, d2] }
  | _ => none }
def OpsOwnWrongFalsely : Prop := opsOwnRow.holds Try.pinned (OpenSpec.ofChange opsOwnWrong)

/-- 'linenkeep.OpsCrash': WHATEVER THE INPUT: true; the input reads as it did. -/
def opsCrashSpec : ChangeSpec := { name := "opsCrash", fn := fun _ => fun
  | [d1, d2, d3, d4] => { results := [.lit (.bool true)], args := [d1, d2, d3, d4] }
  | _ => none }
def opsCrashRow : OpenClaim := { program := "ytbgmfkhfbjgekaa", sum := "9be4faa47f29d92e809bf9b2464c9251c9dd1e258f868775ceafb3bbce597bff", func := "linenpress/linenkeep.OpsCrash", spec := "opsCrash", unfollowed := true, recurses := true, plainKeys := false, apart := false }
def OpsCrashSaid : Prop := opsCrashRow.holds Try.pinned (OpenSpec.ofChange opsCrashSpec)

/-- ITS FALSE NEIGHBOUR: 'it returns false'. Refute it at one input. -/
def opsCrashWrong : ChangeSpec := { name := "opsCrash", fn := fun _ => fun
  | [d1, d2, d3, d4] => { results := [.lit (.bool false)], args := [d1, d2, d3, d4] }
  | _ => none }
def OpsCrashWrongFalsely : Prop := opsCrashRow.holds Try.pinned (OpenSpec.ofChange opsCrashWrong)

/-- 'linenkeep.FileOwn': WHATEVER THE INPUT: true; the input reads as it did. -/
def fileOwnSpec : ChangeSpec := { name := "fileOwn", fn := fun _ => fun
  | [d1, d2, d3, d4] => { results := [.lit (.bool true)], args := [d1, d2, d3, d4] }
  | _ => none }
def fileOwnRow : OpenClaim := { program := "ytbgmfkhfbjgekaa", sum := "9be4faa47f29d92e809bf9b2464c9251c9dd1e258f868775ceafb3bbce597bff", func := "linenpress/linenkeep.FileOwn", spec := "fileOwn", inPlace := ["internal/abi.NoEscape", "internal/bytealg.MakeNoZero"], plainKeys := false, apart := false }
def FileOwnSaid : Prop := fileOwnRow.holds Try.pinned (OpenSpec.ofChange fileOwnSpec)

/-- ITS FALSE NEIGHBOUR: 'it returns false'. Refute it at one input. -/
def fileOwnWrong : ChangeSpec := { name := "fileOwn", fn := fun _ => fun
  | [d1, d2, d3, d4] => { results := [.lit (.bool false)], args := [d1, d2, d3, d4] }
  | _ => none }
def FileOwnWrongFalsely : Prop := fileOwnRow.holds Try.pinned (OpenSpec.ofChange fileOwnWrong)

/-- 'linenkeep.FileHolds': WHATEVER THE INPUT: true; the input reads as it did. -/
def fileHoldsSpec : ChangeSpec := { name := "fileHolds", fn := fun _ => fun
  | [d1, d2, d3, d4] => { results := [.lit (.bool true)], args := [d1, d2, d3, d4] }
  | _ => none }
def fileHoldsRow : OpenClaim := { program := "ytbgmfkhfbjgekaa", sum := "9be4faa47f29d92e809bf9b2464c9251c9dd1e258f868775ceafb3bbce597bff", func := "linenpress/linenkeep.FileHolds", spec := "fileHolds", inPlace := ["internal/abi.NoEscape", "internal/bytealg.MakeNoZero"], plainKeys := false, apart := false }
def FileHoldsSaid : Prop := fileHoldsRow.holds Try.pinned (OpenSpec.ofChange fileHoldsSpec)

/-- ITS FALSE NEIGHBOUR: 'it returns false'. Refute it at one input. -/
def fileHoldsWrong : ChangeSpec := { name := "fileHolds", fn := fun _ => fun
  | [d1, d2, d3, d4] => { results := [.lit (.bool false)], args := [d1, d2, d3, d4] }
  | _ => none }
def FileHoldsWrongFalsely : Prop := fileHoldsRow.holds Try.pinned (OpenSpec.ofChange fileHoldsWrong)

/-- 'linenkeep.FileHoles': WHATEVER THE INPUT: true; the input reads as it did. -/
def fileHolesSpec : ChangeSpec := { name := "fileHoles", fn := fun _ => fun
  | [d1, d2, d3, d4] => { results := [.lit (.bool true)], args := [d1, d2, d3, d4] }
  | _ => none }
def fileHolesRow : OpenClaim := { program := "ytbgmfkhfbjgekaa", sum := "9be4faa47f29d92e809bf9b2464c9251c9dd1e258f868775ceafb3bbce597bff", func := "linenpress/linenkeep.FileHoles", spec := "fileHoles", inPlace := ["internal/abi.NoEscape", "internal/bytealg.MakeNoZero"], unfollowed := true, recurses := true, plainKeys := false, apart := false }
def FileHolesSaid : Prop := fileHolesRow.holds Try.pinned (OpenSpec.ofChange fileHolesSpec)

/-- ITS FALSE NEIGHBOUR: 'it returns false'. Refute it at one input. -/
def fileHolesWrong : ChangeSpec := { name := "fileHoles", fn := fun _ => fun
  | [d1, d2, d3, d4] => { results := [.lit (.bool false)], args := [d1, d2, d3, d4] }
  | _ => none }
def FileHolesWrongFalsely : Prop := fileHolesRow.holds Try.pinned (OpenSpec.ofChange fileHolesWrong)

/-- 'linenkeep.ScanFront': WHATEVER THE INPUT: true; the input reads as it did. -/
def scanFrontSpec : ChangeSpec := { name := "scanFront", fn := fun _ => fun
  | [d1, d2, d3] => { results := [.lit (.bool true)], args := [d1, d2, d3] }
  | _ => none }
def scanFrontRow : OpenClaim := { program := "ytbgmfkhfbjgekaa", sum := "9be4faa47f29d92e809bf9b2464c9251c9dd1e258f868775ceafb3bbce597bff", func := "linenpress/linenkeep.ScanFront", spec := "scanFront", unfollowed := true, recurses := true, plainKeys := false, apart := false }
def ScanFrontSaid : Prop := scanFrontRow.holds Try.pinned (OpenSpec.ofChange scanFrontSpec)

/-- ITS FALSE NEIGHBOUR: 'it returns false'. Refute it at one input. -/
def scanFrontWrong : ChangeSpec := { name := "scanFront", fn := fun _ => fun
  | [d1, d2, d3] => { results := [.lit (.bool false)], args := [d1, d2, d3] }
  | _ => none }
def ScanFrontWrongFalsely : Prop := scanFrontRow.holds Try.pinned (OpenSpec.ofChange scanFrontWrong)

/-- 'linenkeep.ScanOrder': WHATEVER THE INPUT: true; the input reads as it did. -/
def scanOrderSpec : ChangeSpec := { name := "scanOrder", fn := fun _ => fun
  | [d1, d2, d3, d4] => { results := [.lit (.bool true)], args := [d1, d2, d3, d4] }
  | _ => none }
def scanOrderRow : OpenClaim := { program := "ytbgmfkhfbjgekaa", sum := "9be4faa47f29d92e809bf9b2464c9251c9dd1e258f868775ceafb3bbce597bff", func := "linenpress/linenkeep.ScanOrder", spec := "scanOrder", unfollowed := true, recurses := true, plainKeys := false, apart := false }
def ScanOrderSaid : Prop := scanOrderRow.holds Try.pinned (OpenSpec.ofChange scanOrderSpec)

/-- ITS FALSE NEIGHBOUR: 'it returns false'. Refute it at one input. -/
def scanOrderWrong : ChangeSpec := { name := "scanOrder", fn := fun _ => fun
  | [d1, d2, d3, d4] => { results := [.lit (.bool false)], args := [d1, d2, d3, d4] }
  | _ => none }
def ScanOrderWrongFalsely : Prop := scanOrderRow.holds Try.pinned (OpenSpec.ofChange scanOrderWrong)

/-- 'linenkeep.UseSum': WHATEVER THE INPUT: true; the input reads as it did. -/
def useSumSpec : ChangeSpec := { name := "useSum", fn := fun _ => fun
  | [d1, d2] => { results := [.lit (.bool true)], args := [d1, d2] }
  | _ => none }
def useSumRow : OpenClaim := { program := "ytbgmfkhfbjgekaa", sum := "9be4faa47f29d92e809bf9b2464c9251c9dd1e258f868775ceafb3bbce597bff", func := "linenpress/linenkeep.UseSum", spec := "useSum", plainKeys := false, apart := false }
def UseSumSaid : Prop := useSumRow.holds Try.pinned (OpenSpec.ofChange useSumSpec)

/-- ITS FALSE NEIGHBOUR: 'it returns false'. Refute it at one input. -/
def useSumWrong : ChangeSpec := { name := "useSum", fn := fun _ => fun
  | [d1, d2] => { results := [.lit (.bool false)], args := [d1, d2] }
  | _ => none }
def UseSumWrongFalsely : Prop := useSumRow.holds Try.pinned (OpenSpec.ofChange useSumWrong)

/-- 'linenkeep.UseOther': WHATEVER THE INPUT: true; the input reads as it did. -/
def useOtherSpec : ChangeSpec := { name := "useOther", fn := fun _ => fun
  | [d1, d2, d3, d4] => { results := [.lit (.bool true)], args := [d1, d2, d3, d4] }
  | _ => none }
def useOtherRow : OpenClaim := { program := "ytbgmfkhfbjgekaa", sum := "9be4faa47f29d92e809bf9b2464c9251c9dd1e258f868775ceafb3bbce597bff", func := "linenpress/linenkeep.UseOther", spec := "useOther", unfollowed := true, recurses := true, plainKeys := false, apart := false }
def UseOtherSaid : Prop := useOtherRow.holds Try.pinned (OpenSpec.ofChange useOtherSpec)

/-- ITS FALSE NEIGHBOUR: 'it returns false'. Refute it at one input. -/
def useOtherWrong : ChangeSpec := { name := "useOther", fn := fun _ => fun
  | [d1, d2, d3, d4] => { results := [.lit (.bool false)], args := [d1, d2, d3, d4] }
  | _ => none }
def UseOtherWrongFalsely : Prop := useOtherRow.holds Try.pinned (OpenSpec.ofChange useOtherWrong)

/- THE SECOND FORM. 'bulk': how many values and letters a reading holds, each counted each time it is reached (what is shared counts as often as it is met; a slice's spare places count too). A statement '..UptoSaid' is the law's where the arguments, and the package variables that the reading takes, are together of bulk at most 1048576: NARROWER than '..Said'. Prove '..Said' where nothing that the law and all that it calls make is longer than what came in: it says more and counts as full. Else prove '..UptoSaid'. A law counts once. -/
mutual
def uptoBulk {H : Type} : DataW H → Nat
  | .lit (.string bytes) => bytes.length + 1
  | .lit _ => 1
  | .nil => 1
  | .ptr d => uptoBulk d + 1
  | .slice elems spare => uptoBulkAll elems + uptoBulkAll spare + 1
  | .agg parts => uptoBulkAll parts + 1
  | .iface _ d => uptoBulk d + 1
  | .map entries => uptoBulkEntries entries + 1
  | .held _ => 1
def uptoBulkAll {H : Type} : List (DataW H) → Nat
  | [] => 0
  | d :: r => uptoBulk d + uptoBulkAll r
def uptoBulkEntries {H : Type} : List (Lit × DataW H) → Nat
  | [] => 0
  | x :: r => uptoBulkEntry x + uptoBulkEntries r
def uptoBulkEntry {H : Type} : Lit × DataW H → Nat
  | (.string bytes, d) => bytes.length + uptoBulk d + 1
  | (_, d) => uptoBulk d + 1
 end
def uptoSmall : (H : Type) → List (DataW H) → Bool := fun _ ds => decide (uptoBulkAll ds ≤ 1048576)
def OpenSpec.upto (s : _root_.Go.ChangeSpec) : _root_.Go.OpenSpec := { _root_.Go.OpenSpec.ofChange s with cond := some uptoSmall }

/-- 'linenkeep.ImapOwn', WHERE WHAT IT READS IS OF BULK AT MOST 1048576: true; the input reads as it did. -/
def imapOwnUptoRow : OpenClaim := { program := "ytbgmfkhfbjgekaa", sum := "9be4faa47f29d92e809bf9b2464c9251c9dd1e258f868775ceafb3bbce597bff", func := "linenpress/linenkeep.ImapOwn", spec := "imapOwn", plainKeys := false, apart := false, narrowed := true }
def ImapOwnUptoSaid : Prop := imapOwnUptoRow.holds Try.pinned (OpenSpec.upto imapOwnSpec)

/-- 'linenkeep.LzFewest', WHERE WHAT IT READS IS OF BULK AT MOST 1048576: true; the input reads as it did. -/
def lzFewestUptoRow : OpenClaim := { program := "ytbgmfkhfbjgekaa", sum := "9be4faa47f29d92e809bf9b2464c9251c9dd1e258f868775ceafb3bbce597bff", func := "linenpress/linenkeep.LzFewest", spec := "lzFewest", plainKeys := false, apart := false, narrowed := true }
def LzFewestUptoSaid : Prop := lzFewestUptoRow.holds Try.pinned (OpenSpec.upto lzFewestSpec)

/-- 'linenkeep.PickMore', WHERE WHAT IT READS IS OF BULK AT MOST 1048576: true; the input reads as it did. -/
def pickMoreUptoRow : OpenClaim := { program := "ytbgmfkhfbjgekaa", sum := "9be4faa47f29d92e809bf9b2464c9251c9dd1e258f868775ceafb3bbce597bff", func := "linenpress/linenkeep.PickMore", spec := "pickMore", unfollowed := true, recurses := true, plainKeys := false, apart := false, narrowed := true }
def PickMoreUptoSaid : Prop := pickMoreUptoRow.holds Try.pinned (OpenSpec.upto pickMoreSpec)

/-- 'linenkeep.LzBack', WHERE WHAT IT READS IS OF BULK AT MOST 1048576: true; the input reads as it did. -/
def lzBackUptoRow : OpenClaim := { program := "ytbgmfkhfbjgekaa", sum := "9be4faa47f29d92e809bf9b2464c9251c9dd1e258f868775ceafb3bbce597bff", func := "linenpress/linenkeep.LzBack", spec := "lzBack", plainKeys := false, apart := false, narrowed := true }
def LzBackUptoSaid : Prop := lzBackUptoRow.holds Try.pinned (OpenSpec.upto lzBackSpec)

/-- 'linenkeep.DiskOwn', WHERE WHAT IT READS IS OF BULK AT MOST 1048576: true; the input reads as it did. -/
def diskOwnUptoRow : OpenClaim := { program := "ytbgmfkhfbjgekaa", sum := "9be4faa47f29d92e809bf9b2464c9251c9dd1e258f868775ceafb3bbce597bff", func := "linenpress/linenkeep.DiskOwn", spec := "diskOwn", unfollowed := true, recurses := true, plainKeys := false, apart := false, narrowed := true }
def DiskOwnUptoSaid : Prop := diskOwnUptoRow.holds Try.pinned (OpenSpec.upto diskOwnSpec)

/-- 'linenkeep.BlobSplit', WHERE WHAT IT READS IS OF BULK AT MOST 1048576: true; the input reads as it did. -/
def blobSplitUptoRow : OpenClaim := { program := "ytbgmfkhfbjgekaa", sum := "9be4faa47f29d92e809bf9b2464c9251c9dd1e258f868775ceafb3bbce597bff", func := "linenpress/linenkeep.BlobSplit", spec := "blobSplit", recurses := true, plainKeys := false, apart := false, narrowed := true }
def BlobSplitUptoSaid : Prop := blobSplitUptoRow.holds Try.pinned (OpenSpec.upto blobSplitSpec)

/-- 'linenkeep.OpsOwn', WHERE WHAT IT READS IS OF BULK AT MOST 1048576: true; the input reads as it did. -/
def opsOwnUptoRow : OpenClaim := { program := "ytbgmfkhfbjgekaa", sum := "9be4faa47f29d92e809bf9b2464c9251c9dd1e258f868775ceafb3bbce597bff", func := "linenpress/linenkeep.OpsOwn", spec := "opsOwn", unfollowed := true, recurses := true, plainKeys := false, apart := false, narrowed := true }
def OpsOwnUptoSaid : Prop := opsOwnUptoRow.holds Try.pinned (OpenSpec.upto opsOwnSpec)

/-- 'linenkeep.OpsCrash', WHERE WHAT IT READS IS OF BULK AT MOST 1048576: true; the input reads as it did. -/
def opsCrashUptoRow : OpenClaim := { program := "ytbgmfkhfbjgekaa", sum := "9be4faa47f29d92e809bf9b2464c9251c9dd1e258f868775ceafb3bbce597bff", func := "linenpress/linenkeep.OpsCrash", spec := "opsCrash", unfollowed := true, recurses := true, plainKeys := false, apart := false, narrowed := true }
def OpsCrashUptoSaid : Prop := opsCrashUptoRow.holds Try.pinned (OpenSpec.upto opsCrashSpec)

/-- 'linenkeep.FileOwn', WHERE WHAT IT READS IS OF BULK AT MOST 1048576: true; the input reads as it did. -/
def fileOwnUptoRow : OpenClaim := { program := "ytbgmfkhfbjgekaa", sum := "9be4faa47f29d92e809bf9b2464c9251c9dd1e258f868775ceafb3bbce597bff", func := "linenpress/linenkeep.FileOwn", spec := "fileOwn", inPlace := ["internal/abi.NoEscape", "internal/bytealg.MakeNoZero"], plainKeys := false, apart := false, narrowed := true }
def FileOwnUptoSaid : Prop := fileOwnUptoRow.holds Try.pinned (OpenSpec.upto fileOwnSpec)

/-- 'linenkeep.FileHolds', WHERE WHAT IT READS IS OF BULK AT MOST 1048576: true; the input reads as it did. -/
def fileHoldsUptoRow : OpenClaim := { program := "ytbgmfkhfbjgekaa", sum := "9be4faa47f29d92e809bf9b2464c9251c9dd1e258f868775ceafb3bbce597bff", func := "linenpress/linenkeep.FileHolds", spec := "fileHolds", inPlace := ["internal/abi.NoEscape", "internal/bytealg.MakeNoZero"], plainKeys := false, apart := false, narrowed := true }
def FileHoldsUptoSaid : Prop := fileHoldsUptoRow.holds Try.pinned (OpenSpec.upto fileHoldsSpec)

/-- 'linenkeep.FileHoles', WHERE WHAT IT READS IS OF BULK AT MOST 1048576: true; the input reads as it did. -/
def fileHolesUptoRow : OpenClaim := { program := "ytbgmfkhfbjgekaa", sum := "9be4faa47f29d92e809bf9b2464c9251c9dd1e258f868775ceafb3bbce597bff", func := "linenpress/linenkeep.FileHoles", spec := "fileHoles", inPlace := ["internal/abi.NoEscape", "internal/bytealg.MakeNoZero"], unfollowed := true, recurses := true, plainKeys := false, apart := false, narrowed := true }
def FileHolesUptoSaid : Prop := fileHolesUptoRow.holds Try.pinned (OpenSpec.upto fileHolesSpec)

/-- 'linenkeep.ScanFront', WHERE WHAT IT READS IS OF BULK AT MOST 1048576: true; the input reads as it did. -/
def scanFrontUptoRow : OpenClaim := { program := "ytbgmfkhfbjgekaa", sum := "9be4faa47f29d92e809bf9b2464c9251c9dd1e258f868775ceafb3bbce597bff", func := "linenpress/linenkeep.ScanFront", spec := "scanFront", unfollowed := true, recurses := true, plainKeys := false, apart := false, narrowed := true }
def ScanFrontUptoSaid : Prop := scanFrontUptoRow.holds Try.pinned (OpenSpec.upto scanFrontSpec)

/-- 'linenkeep.ScanOrder', WHERE WHAT IT READS IS OF BULK AT MOST 1048576: true; the input reads as it did. -/
def scanOrderUptoRow : OpenClaim := { program := "ytbgmfkhfbjgekaa", sum := "9be4faa47f29d92e809bf9b2464c9251c9dd1e258f868775ceafb3bbce597bff", func := "linenpress/linenkeep.ScanOrder", spec := "scanOrder", unfollowed := true, recurses := true, plainKeys := false, apart := false, narrowed := true }
def ScanOrderUptoSaid : Prop := scanOrderUptoRow.holds Try.pinned (OpenSpec.upto scanOrderSpec)

/-- 'linenkeep.UseSum', WHERE WHAT IT READS IS OF BULK AT MOST 1048576: true; the input reads as it did. -/
def useSumUptoRow : OpenClaim := { program := "ytbgmfkhfbjgekaa", sum := "9be4faa47f29d92e809bf9b2464c9251c9dd1e258f868775ceafb3bbce597bff", func := "linenpress/linenkeep.UseSum", spec := "useSum", plainKeys := false, apart := false, narrowed := true }
def UseSumUptoSaid : Prop := useSumUptoRow.holds Try.pinned (OpenSpec.upto useSumSpec)

/-- 'linenkeep.UseOther', WHERE WHAT IT READS IS OF BULK AT MOST 1048576: true; the input reads as it did. -/
def useOtherUptoRow : OpenClaim := { program := "ytbgmfkhfbjgekaa", sum := "9be4faa47f29d92e809bf9b2464c9251c9dd1e258f868775ceafb3bbce597bff", func := "linenpress/linenkeep.UseOther", spec := "useOther", unfollowed := true, recurses := true, plainKeys := false, apart := false, narrowed := true }
def UseOtherUptoSaid : Prop := useOtherUptoRow.holds Try.pinned (OpenSpec.upto useOtherSpec)

end Rows
end Go.Proofs.Ytbgmfkhfbjgekaa
