/-
  No cell of these rows narrows 'for every input' (looked for: loops, veiled, ifaces, maps, wideKeys, modest, calm, conditions, laid).
  DERIVED. THE GIVEN ROWS OF THIS SEAT. 11 by the template 'for every input the law returns true; each argument reads behind the call as it read before'; 0 by the template 'total and deterministic' (their statements: YtbjalbcdbgcgdaaGreatTotals.lean).
  GIVEN WITH THE SEED: the statements are not yours to turn. If you find one false, say at which input.
  Laid BY PROGRAM, IN A SANDBOX (cutbox-rows.mjs): the forced cells as the released guide's own fill.sh prints them over the translation ee45765c19f8a1b3… (all of the seat's roots in one cut). By AI agents, Wed Nov 11 2026. No macro, syntax, notation, axiom, sorry.
-/
import Derived.Test.YtbjalbcdbgcgdaaGreatChecked
import GoSem.Claim
import GoSem.ClaimJoined
import GoSem.ClaimMapViews
import Derived.JoinedTies
import Derived.KernelRfl
namespace Go.Proofs.YtbjalbcdbgcgdaaGreat
/- THE CELL 'sum', in the pinned program and in every row, IS THE sha256 OF THE DUMP (.gsa) THAT YtbjalbcdbgcgdaaGreatProg.lean LOADS. Nothing in Lean hashes anything: it is a label: what it is worth is what the hold of that sum in a sandbox is worth. -/
noncomputable def Tryz.pinned : Pinned := { name := "ytbjalbcdbgcgdaagreat", sum := "ee45765c19f8a1b3df68f89769ffacaabd74d860380dc41bfc6c78a4ccadb4d1", checked := Tryz.checked }
namespace Rows
def none {H : Type} : Left H := { results := [], args := [] }

/-- 'linentop.TopSame': WHATEVER THE INPUT: true; the input reads as it did. -/
def topSameSpec : ChangeSpec := { name := "topSame", fn := fun _ => fun
  | [d1, d2] => { results := [.lit (.bool true)], args := [d1, d2] }
  | _ => none }
def topSameRow : OpenClaim := { program := "ytbjalbcdbgcgdaagreat", sum := "ee45765c19f8a1b3df68f89769ffacaabd74d860380dc41bfc6c78a4ccadb4d1", func := "linenpress/linentop.TopSame", spec := "topSame", inPlace := ["internal/bytealg.IndexByteString", "internal/bytealg.IndexString", "internal/abi.NoEscape", "internal/bytealg.MakeNoZero", "internal/bytealg.abigen_runtime_cmpstring", "slices.overlaps[linenpress/api.Ent]", "internal/bytealg.CountString"], unfollowed := true, recurses := true, named := ["internal/bytealg.MaxLen"], plainKeys := false, apart := false }
def TopSameSaid : Prop := topSameRow.holds Tryz.pinned (OpenSpec.ofChange topSameSpec)

/-- ITS FALSE NEIGHBOUR: 'it returns false'. Refute it at one input. -/
def topSameWrong : ChangeSpec := { name := "topSame", fn := fun _ => fun
  | [d1, d2] => { results := [.lit (.bool false)], args := [d1, d2] }
  | _ => none }
def TopSameWrongFalsely : Prop := topSameRow.holds Tryz.pinned (OpenSpec.ofChange topSameWrong)

/-- 'linentop.TopStays': WHATEVER THE INPUT: true; the input reads as it did. -/
def topStaysSpec : ChangeSpec := { name := "topStays", fn := fun _ => fun
  | [d1, d2, d3] => { results := [.lit (.bool true)], args := [d1, d2, d3] }
  | _ => none }
def topStaysRow : OpenClaim := { program := "ytbjalbcdbgcgdaagreat", sum := "ee45765c19f8a1b3df68f89769ffacaabd74d860380dc41bfc6c78a4ccadb4d1", func := "linenpress/linentop.TopStays", spec := "topStays", inPlace := ["internal/bytealg.IndexByteString", "internal/bytealg.IndexString", "internal/abi.NoEscape", "internal/bytealg.MakeNoZero", "internal/bytealg.abigen_runtime_cmpstring", "slices.overlaps[linenpress/api.Ent]", "internal/bytealg.CountString"], unfollowed := true, recurses := true, named := ["internal/bytealg.MaxLen"], plainKeys := false, apart := false }
def TopStaysSaid : Prop := topStaysRow.holds Tryz.pinned (OpenSpec.ofChange topStaysSpec)

/-- ITS FALSE NEIGHBOUR: 'it returns false'. Refute it at one input. -/
def topStaysWrong : ChangeSpec := { name := "topStays", fn := fun _ => fun
  | [d1, d2, d3] => { results := [.lit (.bool false)], args := [d1, d2, d3] }
  | _ => none }
def TopStaysWrongFalsely : Prop := topStaysRow.holds Tryz.pinned (OpenSpec.ofChange topStaysWrong)

/-- 'linentop.TopCrash': WHATEVER THE INPUT: true; the input reads as it did. -/
def topCrashSpec : ChangeSpec := { name := "topCrash", fn := fun _ => fun
  | [d1, d2, d3, d4, d5] => { results := [.lit (.bool true)], args := [d1, d2, d3, d4, d5] }
  | _ => none }
def topCrashRow : OpenClaim := { program := "ytbjalbcdbgcgdaagreat", sum := "ee45765c19f8a1b3df68f89769ffacaabd74d860380dc41bfc6c78a4ccadb4d1", func := "linenpress/linentop.TopCrash", spec := "topCrash", inPlace := ["internal/abi.NoEscape", "internal/bytealg.MakeNoZero", "internal/bytealg.IndexByteString", "internal/bytealg.IndexString", "internal/bytealg.abigen_runtime_cmpstring", "slices.overlaps[linenpress/api.Ent]", "internal/bytealg.CountString"], unfollowed := true, recurses := true, named := ["internal/bytealg.MaxLen"], plainKeys := false, apart := false }
def TopCrashSaid : Prop := topCrashRow.holds Tryz.pinned (OpenSpec.ofChange topCrashSpec)

/-- ITS FALSE NEIGHBOUR: 'it returns false'. Refute it at one input. -/
def topCrashWrong : ChangeSpec := { name := "topCrash", fn := fun _ => fun
  | [d1, d2, d3, d4, d5] => { results := [.lit (.bool false)], args := [d1, d2, d3, d4, d5] }
  | _ => none }
def TopCrashWrongFalsely : Prop := topCrashRow.holds Tryz.pinned (OpenSpec.ofChange topCrashWrong)

/-- 'linenkeep.FsHoles': WHATEVER THE INPUT: true; the input reads as it did. -/
def fsHolesSpec : ChangeSpec := { name := "fsHoles", fn := fun _ => fun
  | [d] => { results := [.lit (.bool true)], args := [d] }
  | _ => none }
def fsHolesRow : OpenClaim := { program := "ytbjalbcdbgcgdaagreat", sum := "ee45765c19f8a1b3df68f89769ffacaabd74d860380dc41bfc6c78a4ccadb4d1", func := "linenpress/linenkeep.FsHoles", spec := "fsHoles", inPlace := ["internal/bytealg.IndexByteString", "internal/bytealg.IndexString", "internal/abi.NoEscape", "internal/bytealg.MakeNoZero", "internal/bytealg.abigen_runtime_cmpstring", "slices.overlaps[linenpress/api.Ent]", "internal/bytealg.CountString"], unfollowed := true, recurses := true, named := ["internal/bytealg.MaxLen"], plainKeys := false, apart := false }
def FsHolesSaid : Prop := fsHolesRow.holds Tryz.pinned (OpenSpec.ofChange fsHolesSpec)

/-- ITS FALSE NEIGHBOUR: 'it returns false'. Refute it at one input. -/
def fsHolesWrong : ChangeSpec := { name := "fsHoles", fn := fun _ => fun
  | [d] => { results := [.lit (.bool false)], args := [d] }
  | _ => none }
def FsHolesWrongFalsely : Prop := fsHolesRow.holds Tryz.pinned (OpenSpec.ofChange fsHolesWrong)

/-- 'linenkeep.FsSafe': WHATEVER THE INPUT: true; the input reads as it did. -/
def fsSafeSpec : ChangeSpec := { name := "fsSafe", fn := fun _ => fun
  | [d1, d2] => { results := [.lit (.bool true)], args := [d1, d2] }
  | _ => none }
def fsSafeRow : OpenClaim := { program := "ytbjalbcdbgcgdaagreat", sum := "ee45765c19f8a1b3df68f89769ffacaabd74d860380dc41bfc6c78a4ccadb4d1", func := "linenpress/linenkeep.FsSafe", spec := "fsSafe", inPlace := ["internal/bytealg.IndexByteString", "internal/bytealg.IndexString", "internal/abi.NoEscape", "internal/bytealg.MakeNoZero", "internal/bytealg.abigen_runtime_cmpstring", "slices.overlaps[linenpress/api.Ent]", "internal/bytealg.CountString"], unfollowed := true, recurses := true, named := ["internal/bytealg.MaxLen"], plainKeys := false, apart := false }
def FsSafeSaid : Prop := fsSafeRow.holds Tryz.pinned (OpenSpec.ofChange fsSafeSpec)

/-- ITS FALSE NEIGHBOUR: 'it returns false'. Refute it at one input. -/
def fsSafeWrong : ChangeSpec := { name := "fsSafe", fn := fun _ => fun
  | [d1, d2] => { results := [.lit (.bool false)], args := [d1, d2] }
  | _ => none }
def FsSafeWrongFalsely : Prop := fsSafeRow.holds Tryz.pinned (OpenSpec.ofChange fsSafeWrong)

/-- 'linenkeep.FsOps': WHATEVER THE INPUT: true; the input reads as it did. -/
def fsOpsSpec : ChangeSpec := { name := "fsOps", fn := fun _ => fun
  | [d1, d2] => { results := [.lit (.bool true)], args := [d1, d2] }
  | _ => none }
def fsOpsRow : OpenClaim := { program := "ytbjalbcdbgcgdaagreat", sum := "ee45765c19f8a1b3df68f89769ffacaabd74d860380dc41bfc6c78a4ccadb4d1", func := "linenpress/linenkeep.FsOps", spec := "fsOps", inPlace := ["internal/bytealg.IndexByteString", "internal/bytealg.IndexString", "internal/abi.NoEscape", "internal/bytealg.MakeNoZero", "internal/bytealg.abigen_runtime_cmpstring", "slices.overlaps[linenpress/api.Ent]", "internal/bytealg.CountString"], unfollowed := true, recurses := true, named := ["internal/bytealg.MaxLen"], plainKeys := false, apart := false }
def FsOpsSaid : Prop := fsOpsRow.holds Tryz.pinned (OpenSpec.ofChange fsOpsSpec)

/-- ITS FALSE NEIGHBOUR: 'it returns false'. Refute it at one input. -/
def fsOpsWrong : ChangeSpec := { name := "fsOps", fn := fun _ => fun
  | [d1, d2] => { results := [.lit (.bool false)], args := [d1, d2] }
  | _ => none }
def FsOpsWrongFalsely : Prop := fsOpsRow.holds Tryz.pinned (OpenSpec.ofChange fsOpsWrong)

/-- 'linenkeep.HandMoves': WHATEVER THE INPUT: true; the input reads as it did. -/
def handMovesSpec : ChangeSpec := { name := "handMoves", fn := fun _ => fun
  | [d1, d2, d3] => { results := [.lit (.bool true)], args := [d1, d2, d3] }
  | _ => none }
def handMovesRow : OpenClaim := { program := "ytbjalbcdbgcgdaagreat", sum := "ee45765c19f8a1b3df68f89769ffacaabd74d860380dc41bfc6c78a4ccadb4d1", func := "linenpress/linenkeep.HandMoves", spec := "handMoves", inPlace := ["internal/bytealg.IndexByteString", "internal/bytealg.IndexString", "internal/abi.NoEscape", "internal/bytealg.MakeNoZero", "internal/bytealg.abigen_runtime_cmpstring", "slices.overlaps[linenpress/api.Ent]", "internal/bytealg.CountString"], unfollowed := true, recurses := true, named := ["internal/bytealg.MaxLen"], plainKeys := false, apart := false }
def HandMovesSaid : Prop := handMovesRow.holds Tryz.pinned (OpenSpec.ofChange handMovesSpec)

/-- ITS FALSE NEIGHBOUR: 'it returns false'. Refute it at one input. -/
def handMovesWrong : ChangeSpec := { name := "handMoves", fn := fun _ => fun
  | [d1, d2, d3] => { results := [.lit (.bool false)], args := [d1, d2, d3] }
  | _ => none }
def HandMovesWrongFalsely : Prop := handMovesRow.holds Tryz.pinned (OpenSpec.ofChange handMovesWrong)

/-- 'linenkeep.HandStale': WHATEVER THE INPUT: true; the input reads as it did. -/
def handStaleSpec : ChangeSpec := { name := "handStale", fn := fun _ => fun
  | [d1, d2, d3] => { results := [.lit (.bool true)], args := [d1, d2, d3] }
  | _ => none }
def handStaleRow : OpenClaim := { program := "ytbjalbcdbgcgdaagreat", sum := "ee45765c19f8a1b3df68f89769ffacaabd74d860380dc41bfc6c78a4ccadb4d1", func := "linenpress/linenkeep.HandStale", spec := "handStale", inPlace := ["internal/bytealg.IndexByteString", "internal/bytealg.IndexString", "internal/abi.NoEscape", "internal/bytealg.MakeNoZero", "internal/bytealg.abigen_runtime_cmpstring", "slices.overlaps[linenpress/api.Ent]", "internal/bytealg.CountString"], unfollowed := true, recurses := true, named := ["internal/bytealg.MaxLen"], plainKeys := false, apart := false }
def HandStaleSaid : Prop := handStaleRow.holds Tryz.pinned (OpenSpec.ofChange handStaleSpec)

/-- ITS FALSE NEIGHBOUR: 'it returns false'. Refute it at one input. -/
def handStaleWrong : ChangeSpec := { name := "handStale", fn := fun _ => fun
  | [d1, d2, d3] => { results := [.lit (.bool false)], args := [d1, d2, d3] }
  | _ => none }
def HandStaleWrongFalsely : Prop := handStaleRow.holds Tryz.pinned (OpenSpec.ofChange handStaleWrong)

/-- 'linenkeep.FsFree': WHATEVER THE INPUT: true; the input reads as it did. -/
def fsFreeSpec : ChangeSpec := { name := "fsFree", fn := fun _ => fun
  | [d1, d2] => { results := [.lit (.bool true)], args := [d1, d2] }
  | _ => none }
def fsFreeRow : OpenClaim := { program := "ytbjalbcdbgcgdaagreat", sum := "ee45765c19f8a1b3df68f89769ffacaabd74d860380dc41bfc6c78a4ccadb4d1", func := "linenpress/linenkeep.FsFree", spec := "fsFree", inPlace := ["internal/bytealg.IndexByteString", "internal/bytealg.IndexString", "internal/abi.NoEscape", "internal/bytealg.MakeNoZero", "internal/bytealg.abigen_runtime_cmpstring", "slices.overlaps[linenpress/api.Ent]", "internal/bytealg.CountString"], unfollowed := true, recurses := true, named := ["internal/bytealg.MaxLen"], plainKeys := false, apart := false }
def FsFreeSaid : Prop := fsFreeRow.holds Tryz.pinned (OpenSpec.ofChange fsFreeSpec)

/-- ITS FALSE NEIGHBOUR: 'it returns false'. Refute it at one input. -/
def fsFreeWrong : ChangeSpec := { name := "fsFree", fn := fun _ => fun
  | [d1, d2] => { results := [.lit (.bool false)], args := [d1, d2] }
  | _ => none }
def FsFreeWrongFalsely : Prop := fsFreeRow.holds Tryz.pinned (OpenSpec.ofChange fsFreeWrong)

/-- 'linenkeep.FsLies': WHATEVER THE INPUT: true; the input reads as it did. -/
def fsLiesSpec : ChangeSpec := { name := "fsLies", fn := fun _ => fun
  | [d1, d2] => { results := [.lit (.bool true)], args := [d1, d2] }
  | _ => none }
def fsLiesRow : OpenClaim := { program := "ytbjalbcdbgcgdaagreat", sum := "ee45765c19f8a1b3df68f89769ffacaabd74d860380dc41bfc6c78a4ccadb4d1", func := "linenpress/linenkeep.FsLies", spec := "fsLies", inPlace := ["internal/bytealg.IndexByteString", "internal/bytealg.IndexString", "internal/abi.NoEscape", "internal/bytealg.MakeNoZero", "internal/bytealg.abigen_runtime_cmpstring", "slices.overlaps[linenpress/api.Ent]", "internal/bytealg.CountString"], unfollowed := true, recurses := true, named := ["internal/bytealg.MaxLen"], plainKeys := false, apart := false }
def FsLiesSaid : Prop := fsLiesRow.holds Tryz.pinned (OpenSpec.ofChange fsLiesSpec)

/-- ITS FALSE NEIGHBOUR: 'it returns false'. Refute it at one input. -/
def fsLiesWrong : ChangeSpec := { name := "fsLies", fn := fun _ => fun
  | [d1, d2] => { results := [.lit (.bool false)], args := [d1, d2] }
  | _ => none }
def FsLiesWrongFalsely : Prop := fsLiesRow.holds Tryz.pinned (OpenSpec.ofChange fsLiesWrong)

/-- 'linenkeep.FsOwn': WHATEVER THE INPUT: true; the input reads as it did. -/
def fsOwnSpec : ChangeSpec := { name := "fsOwn", fn := fun _ => fun
  | [d1, d2] => { results := [.lit (.bool true)], args := [d1, d2] }
  | _ => none }
def fsOwnRow : OpenClaim := { program := "ytbjalbcdbgcgdaagreat", sum := "ee45765c19f8a1b3df68f89769ffacaabd74d860380dc41bfc6c78a4ccadb4d1", func := "linenpress/linenkeep.FsOwn", spec := "fsOwn", inPlace := ["internal/bytealg.IndexByteString", "internal/bytealg.IndexString", "internal/abi.NoEscape", "internal/bytealg.MakeNoZero", "internal/bytealg.abigen_runtime_cmpstring", "slices.overlaps[linenpress/api.Ent]", "internal/bytealg.CountString"], unfollowed := true, recurses := true, named := ["internal/bytealg.MaxLen"], plainKeys := false, apart := false }
def FsOwnSaid : Prop := fsOwnRow.holds Tryz.pinned (OpenSpec.ofChange fsOwnSpec)

/-- ITS FALSE NEIGHBOUR: 'it returns false'. Refute it at one input. -/
def fsOwnWrong : ChangeSpec := { name := "fsOwn", fn := fun _ => fun
  | [d1, d2] => { results := [.lit (.bool false)], args := [d1, d2] }
  | _ => none }
def FsOwnWrongFalsely : Prop := fsOwnRow.holds Tryz.pinned (OpenSpec.ofChange fsOwnWrong)

/- THE SECOND FORM. 'bulk': how many values and letters a reading holds, each counted each time it is reached (what is shared counts as often as it is met; a slice's spare places count too). A statement '..UptoSaid' is the law's where the arguments, and the package variables that the reading takes, are together of bulk at most 1048576: NARROWER than '..Said'. Prove '..Said' where nothing that the law and all that it calls make is longer than what came in: it says more and counts as full. Else prove '..UptoSaid'. A law counts once. -/
mutual
def uptoBulk {H : Type} : DataW H → Nat
  | .lit (.string bytes) => bytes.length + 1
  | .lit _ => 1
  | .nil => 1
  | .ptr d => uptoBulk d + 1
  | .slice elems spare => uptoBulkAll elems + uptoBulkAll spare + 1
  | .agg parts => uptoBulkAll parts + 1
  | .iface _ d => uptoBulk d + 1
  | .map entries => uptoBulkEntries entries + 1
  | .held _ => 1
def uptoBulkAll {H : Type} : List (DataW H) → Nat
  | [] => 0
  | d :: r => uptoBulk d + uptoBulkAll r
def uptoBulkEntries {H : Type} : List (Lit × DataW H) → Nat
  | [] => 0
  | x :: r => uptoBulkEntry x + uptoBulkEntries r
def uptoBulkEntry {H : Type} : Lit × DataW H → Nat
  | (.string bytes, d) => bytes.length + uptoBulk d + 1
  | (_, d) => uptoBulk d + 1
 end
def uptoSmall : (H : Type) → List (DataW H) → Bool := fun _ ds => decide (uptoBulkAll ds ≤ 1048576)
def OpenSpec.upto (s : _root_.Go.ChangeSpec) : _root_.Go.OpenSpec := { _root_.Go.OpenSpec.ofChange s with cond := some uptoSmall }

/-- 'linentop.TopSame', WHERE WHAT IT READS IS OF BULK AT MOST 1048576: true; the input reads as it did. -/
def topSameUptoRow : OpenClaim := { program := "ytbjalbcdbgcgdaagreat", sum := "ee45765c19f8a1b3df68f89769ffacaabd74d860380dc41bfc6c78a4ccadb4d1", func := "linenpress/linentop.TopSame", spec := "topSame", inPlace := ["internal/bytealg.IndexByteString", "internal/bytealg.IndexString", "internal/abi.NoEscape", "internal/bytealg.MakeNoZero", "internal/bytealg.abigen_runtime_cmpstring", "slices.overlaps[linenpress/api.Ent]", "internal/bytealg.CountString"], unfollowed := true, recurses := true, named := ["internal/bytealg.MaxLen"], plainKeys := false, apart := false, narrowed := true }
def TopSameUptoSaid : Prop := topSameUptoRow.holds Tryz.pinned (OpenSpec.upto topSameSpec)

/-- 'linentop.TopStays', WHERE WHAT IT READS IS OF BULK AT MOST 1048576: true; the input reads as it did. -/
def topStaysUptoRow : OpenClaim := { program := "ytbjalbcdbgcgdaagreat", sum := "ee45765c19f8a1b3df68f89769ffacaabd74d860380dc41bfc6c78a4ccadb4d1", func := "linenpress/linentop.TopStays", spec := "topStays", inPlace := ["internal/bytealg.IndexByteString", "internal/bytealg.IndexString", "internal/abi.NoEscape", "internal/bytealg.MakeNoZero", "internal/bytealg.abigen_runtime_cmpstring", "slices.overlaps[linenpress/api.Ent]", "internal/bytealg.CountString"], unfollowed := true, recurses := true, named := ["internal/bytealg.MaxLen"], plainKeys := false, apart := false, narrowed := true }
def TopStaysUptoSaid : Prop := topStaysUptoRow.holds Tryz.pinned (OpenSpec.upto topStaysSpec)

/-- 'linentop.TopCrash', WHERE WHAT IT READS IS OF BULK AT MOST 1048576: true; the input reads as it did. -/
def topCrashUptoRow : OpenClaim := { program := "ytbjalbcdbgcgdaagreat", sum := "ee45765c19f8a1b3df68f89769ffacaabd74d860380dc41bfc6c78a4ccadb4d1", func := "linenpress/linentop.TopCrash", spec := "topCrash", inPlace := ["internal/abi.NoEscape", "internal/bytealg.MakeNoZero", "internal/bytealg.IndexByteString", "internal/bytealg.IndexString", "internal/bytealg.abigen_runtime_cmpstring", "slices.overlaps[linenpress/api.Ent]", "internal/bytealg.CountString"], unfollowed := true, recurses := true, named := ["internal/bytealg.MaxLen"], plainKeys := false, apart := false, narrowed := true }
def TopCrashUptoSaid : Prop := topCrashUptoRow.holds Tryz.pinned (OpenSpec.upto topCrashSpec)

/-- 'linenkeep.FsHoles', WHERE WHAT IT READS IS OF BULK AT MOST 1048576: true; the input reads as it did. -/
def fsHolesUptoRow : OpenClaim := { program := "ytbjalbcdbgcgdaagreat", sum := "ee45765c19f8a1b3df68f89769ffacaabd74d860380dc41bfc6c78a4ccadb4d1", func := "linenpress/linenkeep.FsHoles", spec := "fsHoles", inPlace := ["internal/bytealg.IndexByteString", "internal/bytealg.IndexString", "internal/abi.NoEscape", "internal/bytealg.MakeNoZero", "internal/bytealg.abigen_runtime_cmpstring", "slices.overlaps[linenpress/api.Ent]", "internal/bytealg.CountString"], unfollowed := true, recurses := true, named := ["internal/bytealg.MaxLen"], plainKeys := false, apart := false, narrowed := true }
def FsHolesUptoSaid : Prop := fsHolesUptoRow.holds Tryz.pinned (OpenSpec.upto fsHolesSpec)

/-- 'linenkeep.FsSafe', WHERE WHAT IT READS IS OF BULK AT MOST 1048576: true; the input reads as it did. -/
def fsSafeUptoRow : OpenClaim := { program := "ytbjalbcdbgcgdaagreat", sum := "ee45765c19f8a1b3df68f89769ffacaabd74d860380dc41bfc6c78a4ccadb4d1", func := "linenpress/linenkeep.FsSafe", spec := "fsSafe", inPlace := ["internal/bytealg.IndexByteString", "internal/bytealg.IndexString", "internal/abi.NoEscape", "internal/bytealg.MakeNoZero", "internal/bytealg.abigen_runtime_cmpstring", "slices.overlaps[linenpress/api.Ent]", "internal/bytealg.CountString"], unfollowed := true, recurses := true, named := ["internal/bytealg.MaxLen"], plainKeys := false, apart := false, narrowed := true }
def FsSafeUptoSaid : Prop := fsSafeUptoRow.holds Tryz.pinned (OpenSpec.upto fsSafeSpec)

/-- 'linenkeep.FsOps', WHERE WHAT IT READS IS OF BULK AT MOST 1048576: true; the input reads as it did. -/
def fsOpsUptoRow : OpenClaim := { program := "ytbjalbcdbgcgdaagreat", sum := "ee45765c19f8a1b3df68f89769ffacaabd74d860380dc41bfc6c78a4ccadb4d1", func := "linenpress/linenkeep.FsOps", spec := "fsOps", inPlace := ["internal/bytealg.IndexByteString", "internal/bytealg.IndexString", "internal/abi.NoEscape", "internal/bytealg.MakeNoZero", "internal/bytealg.abigen_runtime_cmpstring", "slices.overlaps[linenpress/api.Ent]", "internal/bytealg.CountString"], unfollowed := true, recurses := true, named := ["internal/bytealg.MaxLen"], plainKeys := false, apart := false, narrowed := true }
def FsOpsUptoSaid : Prop := fsOpsUptoRow.holds Tryz.pinned (OpenSpec.upto fsOpsSpec)

/-- 'linenkeep.HandMoves', WHERE WHAT IT READS IS OF BULK AT MOST 1048576: true; the input reads as it did. -/
def handMovesUptoRow : OpenClaim := { program := "ytbjalbcdbgcgdaagreat", sum := "ee45765c19f8a1b3df68f89769ffacaabd74d860380dc41bfc6c78a4ccadb4d1", func := "linenpress/linenkeep.HandMoves", spec := "handMoves", inPlace := ["internal/bytealg.IndexByteString", "internal/bytealg.IndexString", "internal/abi.NoEscape", "internal/bytealg.MakeNoZero", "internal/bytealg.abigen_runtime_cmpstring", "slices.overlaps[linenpress/api.Ent]", "internal/bytealg.CountString"], unfollowed := true, recurses := true, named := ["internal/bytealg.MaxLen"], plainKeys := false, apart := false, narrowed := true }
def HandMovesUptoSaid : Prop := handMovesUptoRow.holds Tryz.pinned (OpenSpec.upto handMovesSpec)

/-- 'linenkeep.HandStale', WHERE WHAT IT READS IS OF BULK AT MOST 1048576: true; the input reads as it did. -/
def handStaleUptoRow : OpenClaim := { program := "ytbjalbcdbgcgdaagreat", sum := "ee45765c19f8a1b3df68f89769ffacaabd74d860380dc41bfc6c78a4ccadb4d1", func := "linenpress/linenkeep.HandStale", spec := "handStale", inPlace := ["internal/bytealg.IndexByteString", "internal/bytealg.IndexString", "internal/abi.NoEscape", "internal/bytealg.MakeNoZero", "internal/bytealg.abigen_runtime_cmpstring", "slices.overlaps[linenpress/api.Ent]", "internal/bytealg.CountString"], unfollowed := true, recurses := true, named := ["internal/bytealg.MaxLen"], plainKeys := false, apart := false, narrowed := true }
def HandStaleUptoSaid : Prop := handStaleUptoRow.holds Tryz.pinned (OpenSpec.upto handStaleSpec)

/-- 'linenkeep.FsFree', WHERE WHAT IT READS IS OF BULK AT MOST 1048576: true; the input reads as it did. -/
def fsFreeUptoRow : OpenClaim := { program := "ytbjalbcdbgcgdaagreat", sum := "ee45765c19f8a1b3df68f89769ffacaabd74d860380dc41bfc6c78a4ccadb4d1", func := "linenpress/linenkeep.FsFree", spec := "fsFree", inPlace := ["internal/bytealg.IndexByteString", "internal/bytealg.IndexString", "internal/abi.NoEscape", "internal/bytealg.MakeNoZero", "internal/bytealg.abigen_runtime_cmpstring", "slices.overlaps[linenpress/api.Ent]", "internal/bytealg.CountString"], unfollowed := true, recurses := true, named := ["internal/bytealg.MaxLen"], plainKeys := false, apart := false, narrowed := true }
def FsFreeUptoSaid : Prop := fsFreeUptoRow.holds Tryz.pinned (OpenSpec.upto fsFreeSpec)

/-- 'linenkeep.FsLies', WHERE WHAT IT READS IS OF BULK AT MOST 1048576: true; the input reads as it did. -/
def fsLiesUptoRow : OpenClaim := { program := "ytbjalbcdbgcgdaagreat", sum := "ee45765c19f8a1b3df68f89769ffacaabd74d860380dc41bfc6c78a4ccadb4d1", func := "linenpress/linenkeep.FsLies", spec := "fsLies", inPlace := ["internal/bytealg.IndexByteString", "internal/bytealg.IndexString", "internal/abi.NoEscape", "internal/bytealg.MakeNoZero", "internal/bytealg.abigen_runtime_cmpstring", "slices.overlaps[linenpress/api.Ent]", "internal/bytealg.CountString"], unfollowed := true, recurses := true, named := ["internal/bytealg.MaxLen"], plainKeys := false, apart := false, narrowed := true }
def FsLiesUptoSaid : Prop := fsLiesUptoRow.holds Tryz.pinned (OpenSpec.upto fsLiesSpec)

/-- 'linenkeep.FsOwn', WHERE WHAT IT READS IS OF BULK AT MOST 1048576: true; the input reads as it did. -/
def fsOwnUptoRow : OpenClaim := { program := "ytbjalbcdbgcgdaagreat", sum := "ee45765c19f8a1b3df68f89769ffacaabd74d860380dc41bfc6c78a4ccadb4d1", func := "linenpress/linenkeep.FsOwn", spec := "fsOwn", inPlace := ["internal/bytealg.IndexByteString", "internal/bytealg.IndexString", "internal/abi.NoEscape", "internal/bytealg.MakeNoZero", "internal/bytealg.abigen_runtime_cmpstring", "slices.overlaps[linenpress/api.Ent]", "internal/bytealg.CountString"], unfollowed := true, recurses := true, named := ["internal/bytealg.MaxLen"], plainKeys := false, apart := false, narrowed := true }
def FsOwnUptoSaid : Prop := fsOwnUptoRow.holds Tryz.pinned (OpenSpec.upto fsOwnSpec)

end Rows
end Go.Proofs.YtbjalbcdbgcgdaaGreat
