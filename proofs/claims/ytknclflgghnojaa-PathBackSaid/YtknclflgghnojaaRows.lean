/-
  No cell of these rows narrows 'for every input' (looked for: loops, veiled, ifaces, maps, wideKeys, modest, calm, conditions, laid).
  DERIVED. THE GIVEN ROWS OF THIS SEAT. 11 by the template 'for every input the law returns true; each argument reads behind the call as it read before'; 0 by the template 'total and deterministic' (their statements: YtknclflgghnojaaTotals.lean).
  GIVEN WITH THE SEED: the statements are not yours to turn. If you find one false, say at which input.
  Laid BY PROGRAM, IN A SANDBOX (cutbox-rows.mjs): the forced cells as the released guide's own fill.sh prints them over the translation a6e17857e69fcda5… (all of the seat's roots in one cut). By AI agents, Wed Nov 11 2026. No macro, syntax, notation, axiom, sorry.
-/
import Derived.Test.YtknclflgghnojaaChecked
import GoSem.Claim
import GoSem.ClaimJoined
import GoSem.ClaimMapViews
import Derived.JoinedTies
import Derived.KernelRfl
namespace Go.Proofs.Ytknclflgghnojaa
/- THE CELL 'sum', in the pinned program and in every row, IS THE sha256 OF THE DUMP (.gsa) THAT YtknclflgghnojaaProg.lean LOADS. Nothing in Lean hashes anything: it is a label: what it is worth is what the hold of that sum in a sandbox is worth. -/
noncomputable def Try.pinned : Pinned := { name := "ytknclflgghnojaa", sum := "a6e17857e69fcda5c4e3619dbf8f6584197124666cd63486e7b96ea668a25528", checked := Try.checked }
namespace Rows
def none {H : Type} : Left H := { results := [], args := [] }

/-- 'linenkeep.FileHolds': WHATEVER THE INPUT: true; the input reads as it did. -/
def fileHoldsSpec : ChangeSpec := { name := "fileHolds", fn := fun _ => fun
  | [d1, d2, d3, d4] => { results := [.lit (.bool true)], args := [d1, d2, d3, d4] }
  | _ => none }
def fileHoldsRow : OpenClaim := { program := "ytknclflgghnojaa", sum := "a6e17857e69fcda5c4e3619dbf8f6584197124666cd63486e7b96ea668a25528", func := "linenpress/linenkeep.FileHolds", spec := "fileHolds", inPlace := ["internal/abi.NoEscape", "internal/bytealg.MakeNoZero"], apart := false }
def FileHoldsSaid : Prop := fileHoldsRow.holds Try.pinned (OpenSpec.ofChange fileHoldsSpec)

/-- ITS FALSE NEIGHBOUR: 'it returns false'. Refute it at one input. -/
def fileHoldsWrong : ChangeSpec := { name := "fileHolds", fn := fun _ => fun
  | [d1, d2, d3, d4] => { results := [.lit (.bool false)], args := [d1, d2, d3, d4] }
  | _ => none }
def FileHoldsWrongFalsely : Prop := fileHoldsRow.holds Try.pinned (OpenSpec.ofChange fileHoldsWrong)

/-- 'linenkeep.FileHoles': WHATEVER THE INPUT: true; the input reads as it did. -/
def fileHolesSpec : ChangeSpec := { name := "fileHoles", fn := fun _ => fun
  | [d1, d2, d3, d4] => { results := [.lit (.bool true)], args := [d1, d2, d3, d4] }
  | _ => none }
def fileHolesRow : OpenClaim := { program := "ytknclflgghnojaa", sum := "a6e17857e69fcda5c4e3619dbf8f6584197124666cd63486e7b96ea668a25528", func := "linenpress/linenkeep.FileHoles", spec := "fileHoles", inPlace := ["internal/abi.NoEscape", "internal/bytealg.MakeNoZero"], unfollowed := true, recurses := true, apart := false }
def FileHolesSaid : Prop := fileHolesRow.holds Try.pinned (OpenSpec.ofChange fileHolesSpec)

/-- ITS FALSE NEIGHBOUR: 'it returns false'. Refute it at one input. -/
def fileHolesWrong : ChangeSpec := { name := "fileHoles", fn := fun _ => fun
  | [d1, d2, d3, d4] => { results := [.lit (.bool false)], args := [d1, d2, d3, d4] }
  | _ => none }
def FileHolesWrongFalsely : Prop := fileHolesRow.holds Try.pinned (OpenSpec.ofChange fileHolesWrong)

/-- 'linenkeep.FileOwn': WHATEVER THE INPUT: true; the input reads as it did. -/
def fileOwnSpec : ChangeSpec := { name := "fileOwn", fn := fun _ => fun
  | [d1, d2, d3, d4] => { results := [.lit (.bool true)], args := [d1, d2, d3, d4] }
  | _ => none }
def fileOwnRow : OpenClaim := { program := "ytknclflgghnojaa", sum := "a6e17857e69fcda5c4e3619dbf8f6584197124666cd63486e7b96ea668a25528", func := "linenpress/linenkeep.FileOwn", spec := "fileOwn", inPlace := ["internal/abi.NoEscape", "internal/bytealg.MakeNoZero"], apart := false }
def FileOwnSaid : Prop := fileOwnRow.holds Try.pinned (OpenSpec.ofChange fileOwnSpec)

/-- ITS FALSE NEIGHBOUR: 'it returns false'. Refute it at one input. -/
def fileOwnWrong : ChangeSpec := { name := "fileOwn", fn := fun _ => fun
  | [d1, d2, d3, d4] => { results := [.lit (.bool false)], args := [d1, d2, d3, d4] }
  | _ => none }
def FileOwnWrongFalsely : Prop := fileOwnRow.holds Try.pinned (OpenSpec.ofChange fileOwnWrong)

/-- 'linenkeep.BlobSplit': WHATEVER THE INPUT: true; the input reads as it did. -/
def blobSplitSpec : ChangeSpec := { name := "blobSplit", fn := fun _ => fun
  | [d] => { results := [.lit (.bool true)], args := [d] }
  | _ => none }
def blobSplitRow : OpenClaim := { program := "ytknclflgghnojaa", sum := "a6e17857e69fcda5c4e3619dbf8f6584197124666cd63486e7b96ea668a25528", func := "linenpress/linenkeep.BlobSplit", spec := "blobSplit", recurses := true, apart := false }
def BlobSplitSaid : Prop := blobSplitRow.holds Try.pinned (OpenSpec.ofChange blobSplitSpec)

/-- ITS FALSE NEIGHBOUR: 'it returns false'. Refute it at one input. -/
def blobSplitWrong : ChangeSpec := { name := "blobSplit", fn := fun _ => fun
  | [d] => { results := [.lit (.bool false)], args := [d] }
  | _ => none }
def BlobSplitWrongFalsely : Prop := blobSplitRow.holds Try.pinned (OpenSpec.ofChange blobSplitWrong)

/-- 'linenkeep.PickMore': WHATEVER THE INPUT: true; the input reads as it did. -/
def pickMoreSpec : ChangeSpec := { name := "pickMore", fn := fun _ => fun
  | [d1, d2] => { results := [.lit (.bool true)], args := [d1, d2] }
  | _ => none }
def pickMoreRow : OpenClaim := { program := "ytknclflgghnojaa", sum := "a6e17857e69fcda5c4e3619dbf8f6584197124666cd63486e7b96ea668a25528", func := "linenpress/linenkeep.PickMore", spec := "pickMore", unfollowed := true, recurses := true, apart := false }
def PickMoreSaid : Prop := pickMoreRow.holds Try.pinned (OpenSpec.ofChange pickMoreSpec)

/-- ITS FALSE NEIGHBOUR: 'it returns false'. Refute it at one input. -/
def pickMoreWrong : ChangeSpec := { name := "pickMore", fn := fun _ => fun
  | [d1, d2] => { results := [.lit (.bool false)], args := [d1, d2] }
  | _ => none }
def PickMoreWrongFalsely : Prop := pickMoreRow.holds Try.pinned (OpenSpec.ofChange pickMoreWrong)

/-- 'linenkeep.PathBack': WHATEVER THE INPUT: true; the input reads as it did. -/
def pathBackSpec : ChangeSpec := { name := "pathBack", fn := fun _ => fun
  | [d] => { results := [.lit (.bool true)], args := [d] }
  | _ => none }
def pathBackRow : OpenClaim := { program := "ytknclflgghnojaa", sum := "a6e17857e69fcda5c4e3619dbf8f6584197124666cd63486e7b96ea668a25528", func := "linenpress/linenkeep.PathBack", spec := "pathBack", inPlace := ["internal/bytealg.IndexByteString", "internal/bytealg.IndexString", "internal/abi.NoEscape", "internal/bytealg.MakeNoZero"], unfollowed := true, recurses := true, named := ["internal/bytealg.MaxLen"], apart := false }
def PathBackSaid : Prop := pathBackRow.holds Try.pinned (OpenSpec.ofChange pathBackSpec)

/-- ITS FALSE NEIGHBOUR: 'it returns false'. Refute it at one input. -/
def pathBackWrong : ChangeSpec := { name := "pathBack", fn := fun _ => fun
  | [d] => { results := [.lit (.bool false)], args := [d] }
  | _ => none }
def PathBackWrongFalsely : Prop := pathBackRow.holds Try.pinned (OpenSpec.ofChange pathBackWrong)

/-- 'linenkeep.PathDots': WHATEVER THE INPUT: true; the input reads as it did. -/
def pathDotsSpec : ChangeSpec := { name := "pathDots", fn := fun _ => fun
  | [d1, d2] => { results := [.lit (.bool true)], args := [d1, d2] }
  | _ => none }
def pathDotsRow : OpenClaim := { program := "ytknclflgghnojaa", sum := "a6e17857e69fcda5c4e3619dbf8f6584197124666cd63486e7b96ea668a25528", func := "linenpress/linenkeep.PathDots", spec := "pathDots", inPlace := ["internal/bytealg.IndexByteString", "internal/bytealg.IndexString"], unfollowed := true, recurses := true, named := ["internal/bytealg.MaxLen"], apart := false }
def PathDotsSaid : Prop := pathDotsRow.holds Try.pinned (OpenSpec.ofChange pathDotsSpec)

/-- ITS FALSE NEIGHBOUR: 'it returns false'. Refute it at one input. -/
def pathDotsWrong : ChangeSpec := { name := "pathDots", fn := fun _ => fun
  | [d1, d2] => { results := [.lit (.bool false)], args := [d1, d2] }
  | _ => none }
def PathDotsWrongFalsely : Prop := pathDotsRow.holds Try.pinned (OpenSpec.ofChange pathDotsWrong)

/-- 'linenkeep.DirBack': WHATEVER THE INPUT: true; the input reads as it did. -/
def dirBackSpec : ChangeSpec := { name := "dirBack", fn := fun _ => fun
  | [d1, d2] => { results := [.lit (.bool true)], args := [d1, d2] }
  | _ => none }
def dirBackRow : OpenClaim := { program := "ytknclflgghnojaa", sum := "a6e17857e69fcda5c4e3619dbf8f6584197124666cd63486e7b96ea668a25528", func := "linenpress/linenkeep.DirBack", spec := "dirBack", inPlace := ["internal/bytealg.IndexByteString", "internal/bytealg.IndexString", "internal/abi.NoEscape"], named := ["internal/bytealg.MaxLen"], apart := false }
def DirBackSaid : Prop := dirBackRow.holds Try.pinned (OpenSpec.ofChange dirBackSpec)

/-- ITS FALSE NEIGHBOUR: 'it returns false'. Refute it at one input. -/
def dirBackWrong : ChangeSpec := { name := "dirBack", fn := fun _ => fun
  | [d1, d2] => { results := [.lit (.bool false)], args := [d1, d2] }
  | _ => none }
def DirBackWrongFalsely : Prop := dirBackRow.holds Try.pinned (OpenSpec.ofChange dirBackWrong)

/-- 'linenkeep.DirOrders': WHATEVER THE INPUT: true; the input reads as it did. -/
def dirOrdersSpec : ChangeSpec := { name := "dirOrders", fn := fun _ => fun
  | [d1, d2, d3] => { results := [.lit (.bool true)], args := [d1, d2, d3] }
  | _ => none }
def dirOrdersRow : OpenClaim := { program := "ytknclflgghnojaa", sum := "a6e17857e69fcda5c4e3619dbf8f6584197124666cd63486e7b96ea668a25528", func := "linenpress/linenkeep.DirOrders", spec := "dirOrders", inPlace := ["internal/bytealg.IndexByteString", "internal/bytealg.IndexString", "internal/bytealg.abigen_runtime_cmpstring", "slices.overlaps[linenpress/api.Ent]"], unfollowed := true, recurses := true, named := ["internal/bytealg.MaxLen"], apart := false }
def DirOrdersSaid : Prop := dirOrdersRow.holds Try.pinned (OpenSpec.ofChange dirOrdersSpec)

/-- ITS FALSE NEIGHBOUR: 'it returns false'. Refute it at one input. -/
def dirOrdersWrong : ChangeSpec := { name := "dirOrders", fn := fun _ => fun
  | [d1, d2, d3] => { results := [.lit (.bool false)], args := [d1, d2, d3] }
  | _ => none }
def DirOrdersWrongFalsely : Prop := dirOrdersRow.holds Try.pinned (OpenSpec.ofChange dirOrdersWrong)

/-- 'linenkeep.DirAdds': WHATEVER THE INPUT: true; the input reads as it did. -/
def dirAddsSpec : ChangeSpec := { name := "dirAdds", fn := fun _ => fun
  | [d1, d2, d3] => { results := [.lit (.bool true)], args := [d1, d2, d3] }
  | _ => none }
def dirAddsRow : OpenClaim := { program := "ytknclflgghnojaa", sum := "a6e17857e69fcda5c4e3619dbf8f6584197124666cd63486e7b96ea668a25528", func := "linenpress/linenkeep.DirAdds", spec := "dirAdds", inPlace := ["internal/bytealg.IndexByteString", "internal/bytealg.IndexString", "internal/bytealg.abigen_runtime_cmpstring", "slices.overlaps[linenpress/api.Ent]"], unfollowed := true, recurses := true, named := ["internal/bytealg.MaxLen"], apart := false }
def DirAddsSaid : Prop := dirAddsRow.holds Try.pinned (OpenSpec.ofChange dirAddsSpec)

/-- ITS FALSE NEIGHBOUR: 'it returns false'. Refute it at one input. -/
def dirAddsWrong : ChangeSpec := { name := "dirAdds", fn := fun _ => fun
  | [d1, d2, d3] => { results := [.lit (.bool false)], args := [d1, d2, d3] }
  | _ => none }
def DirAddsWrongFalsely : Prop := dirAddsRow.holds Try.pinned (OpenSpec.ofChange dirAddsWrong)

/-- 'linenkeep.DirOwn': WHATEVER THE INPUT: true; the input reads as it did. -/
def dirOwnSpec : ChangeSpec := { name := "dirOwn", fn := fun _ => fun
  | [d1, d2] => { results := [.lit (.bool true)], args := [d1, d2] }
  | _ => none }
def dirOwnRow : OpenClaim := { program := "ytknclflgghnojaa", sum := "a6e17857e69fcda5c4e3619dbf8f6584197124666cd63486e7b96ea668a25528", func := "linenpress/linenkeep.DirOwn", spec := "dirOwn", inPlace := ["internal/bytealg.IndexByteString", "internal/bytealg.IndexString", "internal/bytealg.abigen_runtime_cmpstring", "slices.overlaps[linenpress/api.Ent]"], unfollowed := true, recurses := true, named := ["internal/bytealg.MaxLen"], apart := false }
def DirOwnSaid : Prop := dirOwnRow.holds Try.pinned (OpenSpec.ofChange dirOwnSpec)

/-- ITS FALSE NEIGHBOUR: 'it returns false'. Refute it at one input. -/
def dirOwnWrong : ChangeSpec := { name := "dirOwn", fn := fun _ => fun
  | [d1, d2] => { results := [.lit (.bool false)], args := [d1, d2] }
  | _ => none }
def DirOwnWrongFalsely : Prop := dirOwnRow.holds Try.pinned (OpenSpec.ofChange dirOwnWrong)

/- THE SECOND FORM. 'bulk': how many values and letters a reading holds, each counted each time it is reached (what is shared counts as often as it is met; a slice's spare places count too). A statement '..UptoSaid' is the law's where the arguments, and the package variables that the reading takes, are together of bulk at most 1048576: NARROWER than '..Said'. Prove '..Said' where nothing that the law and all that it calls make is longer than what came in: it says more and counts as full. Else prove '..UptoSaid'. A law counts once. -/
mutual
def uptoBulk {H : Type} : DataW H → Nat
  | .lit (.string bytes) => bytes.length + 1
  | .lit _ => 1
  | .nil => 1
  | .ptr d => uptoBulk d + 1
  | .slice elems spare => uptoBulkAll elems + uptoBulkAll spare + 1
  | .agg parts => uptoBulkAll parts + 1
  | .iface _ d => uptoBulk d + 1
  | .map entries => uptoBulkEntries entries + 1
  | .held _ => 1
def uptoBulkAll {H : Type} : List (DataW H) → Nat
  | [] => 0
  | d :: r => uptoBulk d + uptoBulkAll r
def uptoBulkEntries {H : Type} : List (Lit × DataW H) → Nat
  | [] => 0
  | x :: r => uptoBulkEntry x + uptoBulkEntries r
def uptoBulkEntry {H : Type} : Lit × DataW H → Nat
  | (.string bytes, d) => bytes.length + uptoBulk d + 1
  | (_, d) => uptoBulk d + 1
 end
def uptoSmall : (H : Type) → List (DataW H) → Bool := fun _ ds => decide (uptoBulkAll ds ≤ 1048576)
def OpenSpec.upto (s : _root_.Go.ChangeSpec) : _root_.Go.OpenSpec := { _root_.Go.OpenSpec.ofChange s with cond := some uptoSmall }

/-- 'linenkeep.FileHolds', WHERE WHAT IT READS IS OF BULK AT MOST 1048576: true; the input reads as it did. -/
def fileHoldsUptoRow : OpenClaim := { program := "ytknclflgghnojaa", sum := "a6e17857e69fcda5c4e3619dbf8f6584197124666cd63486e7b96ea668a25528", func := "linenpress/linenkeep.FileHolds", spec := "fileHolds", inPlace := ["internal/abi.NoEscape", "internal/bytealg.MakeNoZero"], apart := false, narrowed := true }
def FileHoldsUptoSaid : Prop := fileHoldsUptoRow.holds Try.pinned (OpenSpec.upto fileHoldsSpec)

/-- 'linenkeep.FileHoles', WHERE WHAT IT READS IS OF BULK AT MOST 1048576: true; the input reads as it did. -/
def fileHolesUptoRow : OpenClaim := { program := "ytknclflgghnojaa", sum := "a6e17857e69fcda5c4e3619dbf8f6584197124666cd63486e7b96ea668a25528", func := "linenpress/linenkeep.FileHoles", spec := "fileHoles", inPlace := ["internal/abi.NoEscape", "internal/bytealg.MakeNoZero"], unfollowed := true, recurses := true, apart := false, narrowed := true }
def FileHolesUptoSaid : Prop := fileHolesUptoRow.holds Try.pinned (OpenSpec.upto fileHolesSpec)

/-- 'linenkeep.FileOwn', WHERE WHAT IT READS IS OF BULK AT MOST 1048576: true; the input reads as it did. -/
def fileOwnUptoRow : OpenClaim := { program := "ytknclflgghnojaa", sum := "a6e17857e69fcda5c4e3619dbf8f6584197124666cd63486e7b96ea668a25528", func := "linenpress/linenkeep.FileOwn", spec := "fileOwn", inPlace := ["internal/abi.NoEscape", "internal/bytealg.MakeNoZero"], apart := false, narrowed := true }
def FileOwnUptoSaid : Prop := fileOwnUptoRow.holds Try.pinned (OpenSpec.upto fileOwnSpec)

/-- 'linenkeep.BlobSplit', WHERE WHAT IT READS IS OF BULK AT MOST 1048576: true; the input reads as it did. -/
def blobSplitUptoRow : OpenClaim := { program := "ytknclflgghnojaa", sum := "a6e17857e69fcda5c4e3619dbf8f6584197124666cd63486e7b96ea668a25528", func := "linenpress/linenkeep.BlobSplit", spec := "blobSplit", recurses := true, apart := false, narrowed := true }
def BlobSplitUptoSaid : Prop := blobSplitUptoRow.holds Try.pinned (OpenSpec.upto blobSplitSpec)

/-- 'linenkeep.PickMore', WHERE WHAT IT READS IS OF BULK AT MOST 1048576: true; the input reads as it did. -/
def pickMoreUptoRow : OpenClaim := { program := "ytknclflgghnojaa", sum := "a6e17857e69fcda5c4e3619dbf8f6584197124666cd63486e7b96ea668a25528", func := "linenpress/linenkeep.PickMore", spec := "pickMore", unfollowed := true, recurses := true, apart := false, narrowed := true }
def PickMoreUptoSaid : Prop := pickMoreUptoRow.holds Try.pinned (OpenSpec.upto pickMoreSpec)

/-- 'linenkeep.PathBack', WHERE WHAT IT READS IS OF BULK AT MOST 1048576: true; the input reads as it did. -/
def pathBackUptoRow : OpenClaim := { program := "ytknclflgghnojaa", sum := "a6e17857e69fcda5c4e3619dbf8f6584197124666cd63486e7b96ea668a25528", func := "linenpress/linenkeep.PathBack", spec := "pathBack", inPlace := ["internal/bytealg.IndexByteString", "internal/bytealg.IndexString", "internal/abi.NoEscape", "internal/bytealg.MakeNoZero"], unfollowed := true, recurses := true, named := ["internal/bytealg.MaxLen"], apart := false, narrowed := true }
def PathBackUptoSaid : Prop := pathBackUptoRow.holds Try.pinned (OpenSpec.upto pathBackSpec)

/-- 'linenkeep.PathDots', WHERE WHAT IT READS IS OF BULK AT MOST 1048576: true; the input reads as it did. -/
def pathDotsUptoRow : OpenClaim := { program := "ytknclflgghnojaa", sum := "a6e17857e69fcda5c4e3619dbf8f6584197124666cd63486e7b96ea668a25528", func := "linenpress/linenkeep.PathDots", spec := "pathDots", inPlace := ["internal/bytealg.IndexByteString", "internal/bytealg.IndexString"], unfollowed := true, recurses := true, named := ["internal/bytealg.MaxLen"], apart := false, narrowed := true }
def PathDotsUptoSaid : Prop := pathDotsUptoRow.holds Try.pinned (OpenSpec.upto pathDotsSpec)

/-- 'linenkeep.DirBack', WHERE WHAT IT READS IS OF BULK AT MOST 1048576: true; the input reads as it did. -/
def dirBackUptoRow : OpenClaim := { program := "ytknclflgghnojaa", sum := "a6e17857e69fcda5c4e3619dbf8f6584197124666cd63486e7b96ea668a25528", func := "linenpress/linenkeep.DirBack", spec := "dirBack", inPlace := ["internal/bytealg.IndexByteString", "internal/bytealg.IndexString", "internal/abi.NoEscape"], named := ["internal/bytealg.MaxLen"], apart := false, narrowed := true }
def DirBackUptoSaid : Prop := dirBackUptoRow.holds Try.pinned (OpenSpec.upto dirBackSpec)

/-- 'linenkeep.DirOrders', WHERE WHAT IT READS IS OF BULK AT MOST 1048576: true; the input reads as it did. -/
def dirOrdersUptoRow : OpenClaim := { program := "ytknclflgghnojaa", sum := "a6e17857e69fcda5c4e3619dbf8f6584197124666cd63486e7b96ea668a25528", func := "linenpress/linenkeep.DirOrders", spec := "dirOrders", inPlace := ["internal/bytealg.IndexByteString", "internal/bytealg.IndexString", "internal/bytealg.abigen_runtime_cmpstring", "slices.overlaps[linenpress/api.Ent]"], unfollowed := true, recurses := true, named := ["internal/bytealg.MaxLen"], apart := false, narrowed := true }
def DirOrdersUptoSaid : Prop := dirOrdersUptoRow.holds Try.pinned (OpenSpec.upto dirOrdersSpec)

/-- 'linenkeep.DirAdds', WHERE WHAT IT READS IS OF BULK AT MOST 1048576: true; the input reads as it did. -/
def dirAddsUptoRow : OpenClaim := { program := "ytknclflgghnojaa", sum := "a6e17857e69fcda5c4e3619dbf8f6584197124666cd63486e7b96ea668a25528", func := "linenpress/linenkeep.DirAdds", spec := "dirAdds", inPlace := ["internal/bytealg.IndexByteString", "internal/bytealg.IndexString", "internal/bytealg.abigen_runtime_cmpstring", "slices.overlaps[linenpress/api.Ent]"], unfollowed := true, recurses := true, named := ["internal/bytealg.MaxLen"], apart := false, narrowed := true }
def DirAddsUptoSaid : Prop := dirAddsUptoRow.holds Try.pinned (OpenSpec.upto dirAddsSpec)

/-- 'linenkeep.DirOwn', WHERE WHAT IT READS IS OF BULK AT MOST 1048576: true; the input reads as it did. -/
def dirOwnUptoRow : OpenClaim := { program := "ytknclflgghnojaa", sum := "a6e17857e69fcda5c4e3619dbf8f6584197124666cd63486e7b96ea668a25528", func := "linenpress/linenkeep.DirOwn", spec := "dirOwn", inPlace := ["internal/bytealg.IndexByteString", "internal/bytealg.IndexString", "internal/bytealg.abigen_runtime_cmpstring", "slices.overlaps[linenpress/api.Ent]"], unfollowed := true, recurses := true, named := ["internal/bytealg.MaxLen"], apart := false, narrowed := true }
def DirOwnUptoSaid : Prop := dirOwnUptoRow.holds Try.pinned (OpenSpec.upto dirOwnSpec)

end Rows
end Go.Proofs.Ytknclflgghnojaa
