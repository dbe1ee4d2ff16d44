/-
  No cell of these rows narrows 'for every input' (looked for: loops, veiled, ifaces, maps, wideKeys, modest, calm, conditions, laid).
  DERIVED. THE GIVEN ROWS OF THIS SEAT. 10 by the template 'for every input the law returns true; each argument reads behind the call as it read before'; 0 by the template 'total and deterministic' (their statements: YtjfcoccfkkghaaaTotals.lean).
  GIVEN WITH THE SEED: the statements are not yours to turn. If you find one false, say at which input.
  Laid BY PROGRAM, IN A SANDBOX (cutbox-rows.mjs): the forced cells as the released guide's own fill.sh prints them over the translation 995ec8d8d042e1e4… (all of the seat's roots in one cut). By AI agents, Wed Nov 11 2026. No macro, syntax, notation, axiom, sorry.
-/
import Derived.Test.YtjfcoccfkkghaaaChecked
import GoSem.Claim
import GoSem.ClaimJoined
import GoSem.ClaimMapViews
import Derived.JoinedTies
import Derived.KernelRfl
namespace Go.Proofs.Ytjfcoccfkkghaaa
/- THE CELL 'sum', in the pinned program and in every row, IS THE sha256 OF THE DUMP (.gsa) THAT YtjfcoccfkkghaaaProg.lean LOADS. Nothing in Lean hashes anything: it is a label: what it is worth is what the hold of that sum in a sandbox is worth. -/
noncomputable def Try.pinned : Pinned := { name := "ytjfcoccfkkghaaa", sum := "995ec8d8d042e1e4cc19d82ac97a6d585802749b5bcc73b6e725143dbdb4130b", checked := Try.checked }
namespace Rows
def none {H : Type} : Left H := { results := [], args := [] }

/-- 'linenkeep.RunsShort': WHATEVER THE INPUT: true; the input reads as it did. -/
def runsShortSpec : ChangeSpec := { name := "runsShort", fn := fun _ => fun
  | [d] => { results := [.lit (.bool true)], args := [d] }
  | _ => none }
def runsShortRow : OpenClaim := { program := "ytjfcoccfkkghaaa", sum := "995ec8d8d042e1e4cc19d82ac97a6d585802749b5bcc73b6e725143dbdb4130b", func := "linenpress/linenkeep.RunsShort", spec := "runsShort", plainKeys := false, apart := false }
def RunsShortSaid : Prop := runsShortRow.holds Try.pinned (OpenSpec.ofChange runsShortSpec)

/-- ITS FALSE NEIGHBOUR: 'it returns false'. Refute it at one input. -/
def runsShortWrong : ChangeSpec := { name := "runsShort", fn := fun _ => fun
  | [d] => { results := [.lit (.bool false)], args := [d] }
  | _ => none }
def RunsShortWrongFalsely : Prop := runsShortRow.holds Try.pinned (OpenSpec.ofChange runsShortWrong)

/-- 'linenkeep.LzPeriods': WHATEVER THE INPUT: true; the input reads as it did. -/
def lzPeriodsSpec : ChangeSpec := { name := "lzPeriods", fn := fun _ => fun
  | [d1, d2] => { results := [.lit (.bool true)], args := [d1, d2] }
  | _ => none }
def lzPeriodsRow : OpenClaim := { program := "ytjfcoccfkkghaaa", sum := "995ec8d8d042e1e4cc19d82ac97a6d585802749b5bcc73b6e725143dbdb4130b", func := "linenpress/linenkeep.LzPeriods", spec := "lzPeriods", plainKeys := false, apart := false }
def LzPeriodsSaid : Prop := lzPeriodsRow.holds Try.pinned (OpenSpec.ofChange lzPeriodsSpec)

/-- ITS FALSE NEIGHBOUR: 'it returns false'. Refute it at one input. -/
def lzPeriodsWrong : ChangeSpec := { name := "lzPeriods", fn := fun _ => fun
  | [d1, d2] => { results := [.lit (.bool false)], args := [d1, d2] }
  | _ => none }
def LzPeriodsWrongFalsely : Prop := lzPeriodsRow.holds Try.pinned (OpenSpec.ofChange lzPeriodsWrong)

/-- 'linenkeep.LzFront': WHATEVER THE INPUT: true; the input reads as it did. -/
def lzFrontSpec : ChangeSpec := { name := "lzFront", fn := fun _ => fun
  | [d1, d2] => { results := [.lit (.bool true)], args := [d1, d2] }
  | _ => none }
def lzFrontRow : OpenClaim := { program := "ytjfcoccfkkghaaa", sum := "995ec8d8d042e1e4cc19d82ac97a6d585802749b5bcc73b6e725143dbdb4130b", func := "linenpress/linenkeep.LzFront", spec := "lzFront", plainKeys := false, apart := false }
def LzFrontSaid : Prop := lzFrontRow.holds Try.pinned (OpenSpec.ofChange lzFrontSpec)

/-- ITS FALSE NEIGHBOUR: 'it returns false'. Refute it at one input. -/
def lzFrontWrong : ChangeSpec := { name := "lzFront", fn := fun _ => fun
  | [d1, d2] => { results := [.lit (.bool false)], args := [d1, d2] }
  | _ => none }
def LzFrontWrongFalsely : Prop := lzFrontRow.holds Try.pinned (OpenSpec.ofChange lzFrontWrong)

/-- 'linenkeep.LensTiles': WHATEVER THE INPUT: true; the input reads as it did. -/
def lensTilesSpec : ChangeSpec := { name := "lensTiles", fn := fun _ => fun
  | [d] => { results := [.lit (.bool true)], args := [d] }
  | _ => none }
def lensTilesRow : OpenClaim := { program := "ytjfcoccfkkghaaa", sum := "995ec8d8d042e1e4cc19d82ac97a6d585802749b5bcc73b6e725143dbdb4130b", func := "linenpress/linenkeep.LensTiles", spec := "lensTiles", plainKeys := false, apart := false }
def LensTilesSaid : Prop := lensTilesRow.holds Try.pinned (OpenSpec.ofChange lensTilesSpec)

/-- ITS FALSE NEIGHBOUR: 'it returns false'. Refute it at one input. -/
def lensTilesWrong : ChangeSpec := { name := "lensTiles", fn := fun _ => fun
  | [d] => { results := [.lit (.bool false)], args := [d] }
  | _ => none }
def LensTilesWrongFalsely : Prop := lensTilesRow.holds Try.pinned (OpenSpec.ofChange lensTilesWrong)

/-- 'linenkeep.LensMore': WHATEVER THE INPUT: true; the input reads as it did. -/
def lensMoreSpec : ChangeSpec := { name := "lensMore", fn := fun _ => fun
  | [d1, d2] => { results := [.lit (.bool true)], args := [d1, d2] }
  | _ => none }
def lensMoreRow : OpenClaim := { program := "ytjfcoccfkkghaaa", sum := "995ec8d8d042e1e4cc19d82ac97a6d585802749b5bcc73b6e725143dbdb4130b", func := "linenpress/linenkeep.LensMore", spec := "lensMore", plainKeys := false, apart := false }
def LensMoreSaid : Prop := lensMoreRow.holds Try.pinned (OpenSpec.ofChange lensMoreSpec)

/-- ITS FALSE NEIGHBOUR: 'it returns false'. Refute it at one input. -/
def lensMoreWrong : ChangeSpec := { name := "lensMore", fn := fun _ => fun
  | [d1, d2] => { results := [.lit (.bool false)], args := [d1, d2] }
  | _ => none }
def LensMoreWrongFalsely : Prop := lensMoreRow.holds Try.pinned (OpenSpec.ofChange lensMoreWrong)

/-- 'linenkeep.LensFree': WHATEVER THE INPUT: true; the input reads as it did. -/
def lensFreeSpec : ChangeSpec := { name := "lensFree", fn := fun _ => fun
  | [d] => { results := [.lit (.bool true)], args := [d] }
  | _ => none }
def lensFreeRow : OpenClaim := { program := "ytjfcoccfkkghaaa", sum := "995ec8d8d042e1e4cc19d82ac97a6d585802749b5bcc73b6e725143dbdb4130b", func := "linenpress/linenkeep.LensFree", spec := "lensFree", plainKeys := false, apart := false }
def LensFreeSaid : Prop := lensFreeRow.holds Try.pinned (OpenSpec.ofChange lensFreeSpec)

/-- ITS FALSE NEIGHBOUR: 'it returns false'. Refute it at one input. -/
def lensFreeWrong : ChangeSpec := { name := "lensFree", fn := fun _ => fun
  | [d] => { results := [.lit (.bool false)], args := [d] }
  | _ => none }
def LensFreeWrongFalsely : Prop := lensFreeRow.holds Try.pinned (OpenSpec.ofChange lensFreeWrong)

/-- 'linenkeep.LzFewest': WHATEVER THE INPUT: true; the input reads as it did. -/
def lzFewestSpec : ChangeSpec := { name := "lzFewest", fn := fun _ => fun
  | [d] => { results := [.lit (.bool true)], args := [d] }
  | _ => none }
def lzFewestRow : OpenClaim := { program := "ytjfcoccfkkghaaa", sum := "995ec8d8d042e1e4cc19d82ac97a6d585802749b5bcc73b6e725143dbdb4130b", func := "linenpress/linenkeep.LzFewest", spec := "lzFewest", plainKeys := false, apart := false }
def LzFewestSaid : Prop := lzFewestRow.holds Try.pinned (OpenSpec.ofChange lzFewestSpec)

/-- ITS FALSE NEIGHBOUR: 'it returns false'. Refute it at one input. -/
def lzFewestWrong : ChangeSpec := { name := "lzFewest", fn := fun _ => fun
  | [d] => { results := [.lit (.bool false)], args := [d] }
  | _ => none }
def LzFewestWrongFalsely : Prop := lzFewestRow.holds Try.pinned (OpenSpec.ofChange lzFewestWrong)

/-- 'linenkeep.RunsBack': WHATEVER THE INPUT: true; the input reads as it did. -/
def runsBackSpec : ChangeSpec := { name := "runsBack", fn := fun _ => fun
  | [d1, d2] => { results := [.lit (.bool true)], args := [d1, d2] }
  | _ => none }
def runsBackRow : OpenClaim := { program := "ytjfcoccfkkghaaa", sum := "995ec8d8d042e1e4cc19d82ac97a6d585802749b5bcc73b6e725143dbdb4130b", func := "linenpress/linenkeep.RunsBack", spec := "runsBack", plainKeys := false, apart := false }
def RunsBackSaid : Prop := runsBackRow.holds Try.pinned (OpenSpec.ofChange runsBackSpec)

/-- ITS FALSE NEIGHBOUR: 'it returns false'. Refute it at one input. -/
def runsBackWrong : ChangeSpec := { name := "runsBack", fn := fun _ => fun
  | [d1, d2] => { results := [.lit (.bool false)], args := [d1, d2] }
  | _ => none }
def RunsBackWrongFalsely : Prop := runsBackRow.holds Try.pinned (OpenSpec.ofChange runsBackWrong)

/-- 'linenkeep.RunsOne': WHATEVER THE INPUT: true; the input reads as it did. -/
def runsOneSpec : ChangeSpec := { name := "runsOne", fn := fun _ => fun
  | [d] => { results := [.lit (.bool true)], args := [d] }
  | _ => none }
def runsOneRow : OpenClaim := { program := "ytjfcoccfkkghaaa", sum := "995ec8d8d042e1e4cc19d82ac97a6d585802749b5bcc73b6e725143dbdb4130b", func := "linenpress/linenkeep.RunsOne", spec := "runsOne", plainKeys := false, apart := false }
def RunsOneSaid : Prop := runsOneRow.holds Try.pinned (OpenSpec.ofChange runsOneSpec)

/-- ITS FALSE NEIGHBOUR: 'it returns false'. Refute it at one input. -/
def runsOneWrong : ChangeSpec := { name := "runsOne", fn := fun _ => fun
  | [d] => { results := [.lit (.bool false)], args := [d] }
  | _ => none }
def RunsOneWrongFalsely : Prop := runsOneRow.holds Try.pinned (OpenSpec.ofChange runsOneWrong)

/-- 'linenkeep.LzBack': WHATEVER THE INPUT: true; the input reads as it did. -/
def lzBackSpec : ChangeSpec := { name := "lzBack", fn := fun _ => fun
  | [d] => { results := [.lit (.bool true)], args := [d] }
  | _ => none }
def lzBackRow : OpenClaim := { program := "ytjfcoccfkkghaaa", sum := "995ec8d8d042e1e4cc19d82ac97a6d585802749b5bcc73b6e725143dbdb4130b", func := "linenpress/linenkeep.LzBack", spec := "lzBack", plainKeys := false, apart := false }
def LzBackSaid : Prop := lzBackRow.holds Try.pinned (OpenSpec.ofChange lzBackSpec)

/-- ITS FALSE NEIGHBOUR: 'it returns false'. Refute it at one input. -/
def lzBackWrong : ChangeSpec := { name := "lzBack", fn := fun _ => fun
  | [d] => { results := [.lit (.bool false)], args := [d] }
  | _ => none }
def LzBackWrongFalsely : Prop := lzBackRow.holds Try.pinned (OpenSpec.ofChange lzBackWrong)

/- THE SECOND FORM. 'bulk': how many values and letters a reading holds, each counted each time it is reached (what is shared counts as often as it is met; a slice's spare places count too). A statement '..UptoSaid' is the law's where the arguments, and the package variables that the reading takes, are together of bulk at most 1048576: NARROWER than '..Said'. Prove '..Said' where nothing that the law and all that it calls make is longer than what came in: it says more and counts as full. Else prove '..UptoSaid'. A law counts once. -/
mutual
def uptoBulk {H : Type} : DataW H → Nat
  | .lit (.string bytes) => bytes.length + 1
  | .lit _ => 1
  | .nil => 1
  | .ptr d => uptoBulk d + 1
  | .slice elems spare => uptoBulkAll elems + uptoBulkAll spare + 1
  | .agg parts => uptoBulkAll parts + 1
  | .iface _ d => uptoBulk d + 1
  | .map entries => uptoBulkEntries entries + 1
  | .held _ => 1
def uptoBulkAll {H : Type} : List (DataW H) → Nat
  | [] => 0
  | d :: r => uptoBulk d + uptoBulkAll r
def uptoBulkEntries {H : Type} : List (Lit × DataW H) → Nat
  | [] => 0
  | x :: r => uptoBulkEntry x + uptoBulkEntries r
def uptoBulkEntry {H : Type} : Lit × DataW H → Nat
  | (.string bytes, d) => bytes.length + uptoBulk d + 1
  | (_, d) => uptoBulk d + 1
 end
def uptoSmall : (H : Type) → List (DataW H) → Bool := fun _ ds => decide (uptoBulkAll ds ≤ 1048576)
def OpenSpec.upto (s : _root_.Go.ChangeSpec) : _root_.Go.OpenSpec := { _root_.Go.OpenSpec.ofChange s with cond := some uptoSmall }

/-- 'linenkeep.RunsShort', WHERE WHAT IT READS IS OF BULK AT MOST 1048576: true; the input reads as it did. -/
def runsShortUptoRow : OpenClaim := { program := "ytjfcoccfkkghaaa", sum := "995ec8d8d042e1e4cc19d82ac97a6d585802749b5bcc73b6e725143dbdb4130b", func := "linenpress/linenkeep.RunsShort", spec := "runsShort", plainKeys := false, apart := false, narrowed := true }
def RunsShortUptoSaid : Prop := runsShortUptoRow.holds Try.pinned (OpenSpec.upto runsShortSpec)

/-- 'linenkeep.LzPeriods', WHERE WHAT IT READS IS OF BULK AT MOST 1048576: true; the input reads as it did. -/
def lzPeriodsUptoRow : OpenClaim := { program := "ytjfcoccfkkghaaa", sum := "995ec8d8d042e1e4cc19d82ac97a6d585802749b5bcc73b6e725143dbdb4130b", func := "linenpress/linenkeep.LzPeriods", spec := "lzPeriods", plainKeys := false, apart := false, narrowed := true }
def LzPeriodsUptoSaid : Prop := lzPeriodsUptoRow.holds Try.pinned (OpenSpec.upto lzPeriodsSpec)

/-- 'linenkeep.LzFront', WHERE WHAT IT READS IS OF BULK AT MOST 1048576: true; the input reads as it did. -/
def lzFrontUptoRow : OpenClaim := { program := "ytjfcoccfkkghaaa", sum := "995ec8d8d042e1e4cc19d82ac97a6d585802749b5bcc73b6e725143dbdb4130b", func := "linenpress/linenkeep.LzFront", spec := "lzFront", plainKeys := false, apart := false, narrowed := true }
def LzFrontUptoSaid : Prop := lzFrontUptoRow.holds Try.pinned (OpenSpec.upto lzFrontSpec)

/-- 'linenkeep.LensTiles', WHERE WHAT IT READS IS OF BULK AT MOST 1048576: true; the input reads as it did. -/
def lensTilesUptoRow : OpenClaim := { program := "ytjfcoccfkkghaaa", sum := "995ec8d8d042e1e4cc19d82ac97a6d585802749b5bcc73b6e725143dbdb4130b", func := "linenpress/linenkeep.LensTiles", spec := "lensTiles", plainKeys := false, apart := false, narrowed := true }
def LensTilesUptoSaid : Prop := lensTilesUptoRow.holds Try.pinned (OpenSpec.upto lensTilesSpec)

/-- 'linenkeep.LensMore', WHERE WHAT IT READS IS OF BULK AT MOST 1048576: true; the input reads as it did. -/
def lensMoreUptoRow : OpenClaim := { program := "ytjfcoccfkkghaaa", sum := "995ec8d8d042e1e4cc19d82ac97a6d585802749b5bcc73b6e725143dbdb4130b", func := "linenpress/linenkeep.LensMore", spec := "lensMore", plainKeys := false, apart := false, narrowed := true }
def LensMoreUptoSaid : Prop := lensMoreUptoRow.holds Try.pinned (OpenSpec.upto lensMoreSpec)

/-- 'linenkeep.LensFree', WHERE WHAT IT READS IS OF BULK AT MOST 1048576: true; the input reads as it did. -/
def lensFreeUptoRow : OpenClaim := { program := "ytjfcoccfkkghaaa", sum := "995ec8d8d042e1e4cc19d82ac97a6d585802749b5bcc73b6e725143dbdb4130b", func := "linenpress/linenkeep.LensFree", spec := "lensFree", plainKeys := false, apart := false, narrowed := true }
def LensFreeUptoSaid : Prop := lensFreeUptoRow.holds Try.pinned (OpenSpec.upto lensFreeSpec)

/-- 'linenkeep.LzFewest', WHERE WHAT IT READS IS OF BULK AT MOST 1048576: true; the input reads as it did. -/
def lzFewestUptoRow : OpenClaim := { program := "ytjfcoccfkkghaaa", sum := "995ec8d8d042e1e4cc19d82ac97a6d585802749b5bcc73b6e725143dbdb4130b", func := "linenpress/linenkeep.LzFewest", spec := "lzFewest", plainKeys := false, apart := false, narrowed := true }
def LzFewestUptoSaid : Prop := lzFewestUptoRow.holds Try.pinned (OpenSpec.upto lzFewestSpec)

/-- 'linenkeep.RunsBack', WHERE WHAT IT READS IS OF BULK AT MOST 1048576: true; the input reads as it did. -/
def runsBackUptoRow : OpenClaim := { program := "ytjfcoccfkkghaaa", sum := "995ec8d8d042e1e4cc19d82ac97a6d585802749b5bcc73b6e725143dbdb4130b", func := "linenpress/linenkeep.RunsBack", spec := "runsBack", plainKeys := false, apart := false, narrowed := true }
def RunsBackUptoSaid : Prop := runsBackUptoRow.holds Try.pinned (OpenSpec.upto runsBackSpec)

/-- 'linenkeep.RunsOne', WHERE WHAT IT READS IS OF BULK AT MOST 1048576: true; the input reads as it did. -/
def runsOneUptoRow : OpenClaim := { program := "ytjfcoccfkkghaaa", sum := "995ec8d8d042e1e4cc19d82ac97a6d585802749b5bcc73b6e725143dbdb4130b", func := "linenpress/linenkeep.RunsOne", spec := "runsOne", plainKeys := false, apart := false, narrowed := true }
def RunsOneUptoSaid : Prop := runsOneUptoRow.holds Try.pinned (OpenSpec.upto runsOneSpec)

/-- 'linenkeep.LzBack', WHERE WHAT IT READS IS OF BULK AT MOST 1048576: true; the input reads as it did. -/
def lzBackUptoRow : OpenClaim := { program := "ytjfcoccfkkghaaa", sum := "995ec8d8d042e1e4cc19d82ac97a6d585802749b5bcc73b6e725143dbdb4130b", func := "linenpress/linenkeep.LzBack", spec := "lzBack", plainKeys := false, apart := false, narrowed := true }
def LzBackUptoSaid : Prop := lzBackUptoRow.holds Try.pinned (OpenSpec.upto lzBackSpec)

end Rows
end Go.Proofs.Ytjfcoccfkkghaaa
