/-
  No cell of these rows narrows 'for every input' (looked for: loops, veiled, ifaces, maps, wideKeys, modest, calm, conditions, laid).
  DERIVED. THE GIVEN ROWS OF THIS SEAT. 11 by the template 'for every input the law returns true; each argument reads behind the call as it read before'; 0 by the template 'total and deterministic' (their statements: YtmjjdmofohjkkaaTotals.lean).
  GIVEN WITH THE SEED: the statements are not yours to turn. If you find one false, say at which input.
  Laid BY PROGRAM, IN A SANDBOX (cutbox-rows.mjs): the forced cells as the released guide's own fill.sh prints them over the translation 6fb97480a8fb47dd… (all of the seat's roots in one cut). By AI agents, Wed Nov 11 2026. No macro, syntax, notation, axiom, sorry.
-/
import Derived.Test.YtmjjdmofohjkkaaChecked
import GoSem.Claim
import GoSem.ClaimJoined
import GoSem.ClaimMapViews
import Derived.JoinedTies
import Derived.KernelRfl
namespace Go.Proofs.Ytmjjdmofohjkkaa
/- THE CELL 'sum', in the pinned program and in every row, IS THE sha256 OF THE DUMP (.gsa) THAT YtmjjdmofohjkkaaProg.lean LOADS. Nothing in Lean hashes anything: it is a label: what it is worth is what the hold of that sum in a sandbox is worth. -/
noncomputable def Try.pinned : Pinned := { name := "ytmjjdmofohjkkaa", sum := "6fb97480a8fb47ddc4eeb433ddc390a88139382fca5717d8d1aacf929c8d22fe", checked := Try.checked }
namespace Rows
def none {H : Type} : Left H := { results := [], args := [] }

/-- 'linenkeep.OpsCrash': WHATEVER THE INPUT: true; the input reads as it did. -/
def opsCrashSpec : ChangeSpec := { name := "opsCrash", fn := fun _ => fun
  | [d1, d2, d3, d4] => { results := [.lit (.bool true)], args := [d1, d2, d3, d4] }
  | _ => none }
def opsCrashRow : OpenClaim := { program := "ytmjjdmofohjkkaa", sum := "6fb97480a8fb47ddc4eeb433ddc390a88139382fca5717d8d1aacf929c8d22fe", func := "linenpress/linenkeep.OpsCrash", spec := "opsCrash", unfollowed := true, recurses := true, plainKeys := false, apart := false }
def OpsCrashSaid : Prop := opsCrashRow.holds Try.pinned (OpenSpec.ofChange opsCrashSpec)

/-- ITS FALSE NEIGHBOUR: 'it returns false'. Refute it at one input. -/
def opsCrashWrong : ChangeSpec := { name := "opsCrash", fn := fun _ => fun
  | [d1, d2, d3, d4] => { results := [.lit (.bool false)], args := [d1, d2, d3, d4] }
  | _ => none }
def OpsCrashWrongFalsely : Prop := opsCrashRow.holds Try.pinned (OpenSpec.ofChange opsCrashWrong)

/-- 'linenkeep.ImapBack': WHATEVER THE INPUT: true; the input reads as it did. -/
def imapBackSpec : ChangeSpec := { name := "imapBack", fn := fun _ => fun
  | [d1, d2] => { results := [.lit (.bool true)], args := [d1, d2] }
  | _ => none }
def imapBackRow : OpenClaim := { program := "ytmjjdmofohjkkaa", sum := "6fb97480a8fb47ddc4eeb433ddc390a88139382fca5717d8d1aacf929c8d22fe", func := "linenpress/linenkeep.ImapBack", spec := "imapBack", plainKeys := false, apart := false }
def ImapBackSaid : Prop := imapBackRow.holds Try.pinned (OpenSpec.ofChange imapBackSpec)

/-- ITS FALSE NEIGHBOUR: 'it returns false'. Refute it at one input. -/
def imapBackWrong : ChangeSpec := { name := "imapBack", fn := fun _ => fun
  | [d1, d2] => { results := [.lit (.bool false)], args := [d1, d2] }
  | _ => none }
def ImapBackWrongFalsely : Prop := imapBackRow.holds Try.pinned (OpenSpec.ofChange imapBackWrong)

/-- 'linenkeep.PickMore': WHATEVER THE INPUT: true; the input reads as it did. -/
def pickMoreSpec : ChangeSpec := { name := "pickMore", fn := fun _ => fun
  | [d1, d2] => { results := [.lit (.bool true)], args := [d1, d2] }
  | _ => none }
def pickMoreRow : OpenClaim := { program := "ytmjjdmofohjkkaa", sum := "6fb97480a8fb47ddc4eeb433ddc390a88139382fca5717d8d1aacf929c8d22fe", func := "linenpress/linenkeep.PickMore", spec := "pickMore", unfollowed := true, recurses := true, plainKeys := false, apart := false }
def PickMoreSaid : Prop := pickMoreRow.holds Try.pinned (OpenSpec.ofChange pickMoreSpec)

/-- ITS FALSE NEIGHBOUR: 'it returns false'. Refute it at one input. -/
def pickMoreWrong : ChangeSpec := { name := "pickMore", fn := fun _ => fun
  | [d1, d2] => { results := [.lit (.bool false)], args := [d1, d2] }
  | _ => none }
def PickMoreWrongFalsely : Prop := pickMoreRow.holds Try.pinned (OpenSpec.ofChange pickMoreWrong)

/-- 'linenkeep.ImapOwn': WHATEVER THE INPUT: true; the input reads as it did. -/
def imapOwnSpec : ChangeSpec := { name := "imapOwn", fn := fun _ => fun
  | [d1, d2, d3] => { results := [.lit (.bool true)], args := [d1, d2, d3] }
  | _ => none }
def imapOwnRow : OpenClaim := { program := "ytmjjdmofohjkkaa", sum := "6fb97480a8fb47ddc4eeb433ddc390a88139382fca5717d8d1aacf929c8d22fe", func := "linenpress/linenkeep.ImapOwn", spec := "imapOwn", plainKeys := false, apart := false }
def ImapOwnSaid : Prop := imapOwnRow.holds Try.pinned (OpenSpec.ofChange imapOwnSpec)

/-- ITS FALSE NEIGHBOUR: 'it returns false'. Refute it at one input. -/
def imapOwnWrong : ChangeSpec := { name := "imapOwn", fn := fun _ => fun
  | [d1, d2, d3] => { results := [.lit (.bool false)], args := [d1, d2, d3] }
  | _ => none }
def ImapOwnWrongFalsely : Prop := imapOwnRow.holds Try.pinned (OpenSpec.ofChange imapOwnWrong)

/-- 'linenkeep.DiskOwn': WHATEVER THE INPUT: true; the input reads as it did. -/
def diskOwnSpec : ChangeSpec := { name := "diskOwn", fn := fun _ => fun
  | [d1, d2, d3, d4] => { results := [.lit (.bool true)], args := [d1, d2, d3, d4] }
  | _ => none }
def diskOwnRow : OpenClaim := { program := "ytmjjdmofohjkkaa", sum := "6fb97480a8fb47ddc4eeb433ddc390a88139382fca5717d8d1aacf929c8d22fe", func := "linenpress/linenkeep.DiskOwn", spec := "diskOwn", unfollowed := true, recurses := true, plainKeys := false, apart := false }
def DiskOwnSaid : Prop := diskOwnRow.holds Try.pinned (OpenSpec.ofChange diskOwnSpec)

/-- ITS FALSE NEIGHBOUR: 'it returns false'. Refute it at one input. -/
def diskOwnWrong : ChangeSpec := { name := "diskOwn", fn := fun _ => fun
  | [d1, d2, d3, d4] => { results := [.lit (.bool false)], args := [d1, d2, d3, d4] }
  | _ => none }
def DiskOwnWrongFalsely : Prop := diskOwnRow.holds Try.pinned (OpenSpec.ofChange diskOwnWrong)

/-- 'linenkeep.OpsOwn': WHATEVER THE INPUT: true; the input reads as it did. -/
def opsOwnSpec : ChangeSpec := { name := "opsOwn", fn := fun _ => fun
  | [d1, d2] => { results := [.lit (.bool true)], args := [d1, d2] }
  | _ => none }
def opsOwnRow : OpenClaim := { program := "ytmjjdmofohjkkaa", sum := "6fb97480a8fb47ddc4eeb433ddc390a88139382fca5717d8d1aacf929c8d22fe", func := "linenpress/linenkeep.OpsOwn", spec := "opsOwn", unfollowed := true, recurses := true, plainKeys := false, apart := false }
def OpsOwnSaid : Prop := opsOwnRow.holds Try.pinned (OpenSpec.ofChange opsOwnSpec)

/-- ITS FALSE NEIGHBOUR: 'it returns false'. Refute it at one input. -/
def opsOwnWrong : ChangeSpec := { name := "opsOwn", fn := fun _ => fun
  | [d1, d2] => { results := [.lit (.bool false)], args := [d1, d2] }
  | _ => none }
def OpsOwnWrongFalsely : Prop := opsOwnRow.holds Try.pinned (OpenSpec.ofChange opsOwnWrong)

/-- 'linenkeep.LzBack': WHATEVER THE INPUT: true; the input reads as it did. -/
def lzBackSpec : ChangeSpec := { name := "lzBack", fn := fun _ => fun
  | [d] => { results := [.lit (.bool true)], args := [d] }
  | _ => none }
def lzBackRow : OpenClaim := { program := "ytmjjdmofohjkkaa", sum := "6fb97480a8fb47ddc4eeb433ddc390a88139382fca5717d8d1aacf929c8d22fe", func := "linenpress/linenkeep.LzBack", spec := "lzBack", plainKeys := false, apart := false }
def LzBackSaid : Prop := lzBackRow.holds Try.pinned (OpenSpec.ofChange lzBackSpec)

/-- ITS FALSE NEIGHBOUR: 'it returns false'. Refute it at one input. -/
def lzBackWrong : ChangeSpec := { name := "lzBack", fn := fun _ => fun
  | [d] => { results := [.lit (.bool false)], args := [d] }
  | _ => none }
def LzBackWrongFalsely : Prop := lzBackRow.holds Try.pinned (OpenSpec.ofChange lzBackWrong)

/-- 'linenkeep.LzFewest': WHATEVER THE INPUT: true; the input reads as it did. -/
def lzFewestSpec : ChangeSpec := { name := "lzFewest", fn := fun _ => fun
  | [d] => { results := [.lit (.bool true)], args := [d] }
  | _ => none }
def lzFewestRow : OpenClaim := { program := "ytmjjdmofohjkkaa", sum := "6fb97480a8fb47ddc4eeb433ddc390a88139382fca5717d8d1aacf929c8d22fe", func := "linenpress/linenkeep.LzFewest", spec := "lzFewest", plainKeys := false, apart := false }
def LzFewestSaid : Prop := lzFewestRow.holds Try.pinned (OpenSpec.ofChange lzFewestSpec)

/-- ITS FALSE NEIGHBOUR: 'it returns false'. Refute it at one input. -/
def lzFewestWrong : ChangeSpec := { name := "lzFewest", fn := fun _ => fun
  | [d] => { results := [.lit (.bool false)], args := [d] }
  | _ => none }
def LzFewestWrongFalsely : Prop := lzFewestRow.holds Try.pinned (OpenSpec.ofChange lzFewestWrong)

/-- 'linenkeep.SealBack': WHATEVER THE INPUT: true; the input reads as it did. -/
def sealBackSpec : ChangeSpec := { name := "sealBack", fn := fun _ => fun
  | [d1, d2, d3] => { results := [.lit (.bool true)], args := [d1, d2, d3] }
  | _ => none }
def sealBackRow : OpenClaim := { program := "ytmjjdmofohjkkaa", sum := "6fb97480a8fb47ddc4eeb433ddc390a88139382fca5717d8d1aacf929c8d22fe", func := "linenpress/linenkeep.SealBack", spec := "sealBack", plainKeys := false, apart := false }
def SealBackSaid : Prop := sealBackRow.holds Try.pinned (OpenSpec.ofChange sealBackSpec)

/-- ITS FALSE NEIGHBOUR: 'it returns false'. Refute it at one input. -/
def sealBackWrong : ChangeSpec := { name := "sealBack", fn := fun _ => fun
  | [d1, d2, d3] => { results := [.lit (.bool false)], args := [d1, d2, d3] }
  | _ => none }
def SealBackWrongFalsely : Prop := sealBackRow.holds Try.pinned (OpenSpec.ofChange sealBackWrong)

/-- 'linenkeep.SealBursts': WHATEVER THE INPUT: true; the input reads as it did. -/
def sealBurstsSpec : ChangeSpec := { name := "sealBursts", fn := fun _ => fun
  | [d1, d2, d3, d4, d5] => { results := [.lit (.bool true)], args := [d1, d2, d3, d4, d5] }
  | _ => none }
def sealBurstsRow : OpenClaim := { program := "ytmjjdmofohjkkaa", sum := "6fb97480a8fb47ddc4eeb433ddc390a88139382fca5717d8d1aacf929c8d22fe", func := "linenpress/linenkeep.SealBursts", spec := "sealBursts", plainKeys := false, apart := false }
def SealBurstsSaid : Prop := sealBurstsRow.holds Try.pinned (OpenSpec.ofChange sealBurstsSpec)

/-- ITS FALSE NEIGHBOUR: 'it returns false'. Refute it at one input. -/
def sealBurstsWrong : ChangeSpec := { name := "sealBursts", fn := fun _ => fun
  | [d1, d2, d3, d4, d5] => { results := [.lit (.bool false)], args := [d1, d2, d3, d4, d5] }
  | _ => none }
def SealBurstsWrongFalsely : Prop := sealBurstsRow.holds Try.pinned (OpenSpec.ofChange sealBurstsWrong)

/-- 'linenkeep.SealOne': WHATEVER THE INPUT: true; the input reads as it did. -/
def sealOneSpec : ChangeSpec := { name := "sealOne", fn := fun _ => fun
  | [d] => { results := [.lit (.bool true)], args := [d] }
  | _ => none }
def sealOneRow : OpenClaim := { program := "ytmjjdmofohjkkaa", sum := "6fb97480a8fb47ddc4eeb433ddc390a88139382fca5717d8d1aacf929c8d22fe", func := "linenpress/linenkeep.SealOne", spec := "sealOne", plainKeys := false, apart := false }
def SealOneSaid : Prop := sealOneRow.holds Try.pinned (OpenSpec.ofChange sealOneSpec)

/-- ITS FALSE NEIGHBOUR: 'it returns false'. Refute it at one input. -/
def sealOneWrong : ChangeSpec := { name := "sealOne", fn := fun _ => fun
  | [d] => { results := [.lit (.bool false)], args := [d] }
  | _ => none }
def SealOneWrongFalsely : Prop := sealOneRow.holds Try.pinned (OpenSpec.ofChange sealOneWrong)

/- THE SECOND FORM. 'bulk': how many values and letters a reading holds, each counted each time it is reached (what is shared counts as often as it is met; a slice's spare places count too). A statement '..UptoSaid' is the law's where the arguments, and the package variables that the reading takes, are together of bulk at most 1048576: NARROWER than '..Said'. Prove '..Said' where nothing that the law and all that it calls make is longer than what came in: it says more and counts as full. Else prove '..UptoSaid'. A law counts once. -/
mutual
def uptoBulk {H : Type} : DataW H → Nat
  | .lit (.string bytes) => bytes.length + 1
  | .lit _ => 1
  | .nil => 1
  | .ptr d => uptoBulk d + 1
  | .slice elems spare => uptoBulkAll elems + uptoBulkAll spare + 1
  | .agg parts => uptoBulkAll parts + 1
  | .iface _ d => uptoBulk d + 1
  | .map entries => uptoBulkEntries entries + 1
  | .held _ => 1
def uptoBulkAll {H : Type} : List (DataW H) → Nat
  | [] => 0
  | d :: r => uptoBulk d + uptoBulkAll r
def uptoBulkEntries {H : Type} : List (Lit × DataW H) → Nat
  | [] => 0
  | x :: r => uptoBulkEntry x + uptoBulkEntries r
def uptoBulkEntry {H : Type} : Lit × DataW H → Nat
  | (.string bytes, d) => bytes.length + uptoBulk d + 1
  | (_, d) => uptoBulk d + 1
 end
def uptoSmall : (H : Type) → List (DataW H) → Bool := fun _ ds => decide (uptoBulkAll ds ≤ 1048576)
def OpenSpec.upto (s : _root_.Go.ChangeSpec) : _root_.Go.OpenSpec := { _root_.Go.OpenSpec.ofChange s with cond := some uptoSmall }

/-- 'linenkeep.OpsCrash', WHERE WHAT IT READS IS OF BULK AT MOST 1048576: true; the input reads as it did. -/
def opsCrashUptoRow : OpenClaim := { program := "ytmjjdmofohjkkaa", sum := "6fb97480a8fb47ddc4eeb433ddc390a88139382fca5717d8d1aacf929c8d22fe", func := "linenpress/linenkeep.OpsCrash", spec := "opsCrash", unfollowed := true, recurses := true, plainKeys := false, apart := false, narrowed := true }
def OpsCrashUptoSaid : Prop := opsCrashUptoRow.holds Try.pinned (OpenSpec.upto opsCrashSpec)

/-- 'linenkeep.ImapBack', WHERE WHAT IT READS IS OF BULK AT MOST 1048576: true; the input reads as it did. -/
def imapBackUptoRow : OpenClaim := { program := "ytmjjdmofohjkkaa", sum := "6fb97480a8fb47ddc4eeb433ddc390a88139382fca5717d8d1aacf929c8d22fe", func := "linenpress/linenkeep.ImapBack", spec := "imapBack", plainKeys := false, apart := false, narrowed := true }
def ImapBackUptoSaid : Prop := imapBackUptoRow.holds Try.pinned (OpenSpec.upto imapBackSpec)

/-- 'linenkeep.PickMore', WHERE WHAT IT READS IS OF BULK AT MOST 1048576: true; the input reads as it did. -/
def pickMoreUptoRow : OpenClaim := { program := "ytmjjdmofohjkkaa", sum := "6fb97480a8fb47ddc4eeb433ddc390a88139382fca5717d8d1aacf929c8d22fe", func := "linenpress/linenkeep.PickMore", spec := "pickMore", unfollowed := true, recurses := true, plainKeys := false, apart := false, narrowed := true }
def PickMoreUptoSaid : Prop := pickMoreUptoRow.holds Try.pinned (OpenSpec.upto pickMoreSpec)

/-- 'linenkeep.ImapOwn', WHERE WHAT IT READS IS OF BULK AT MOST 1048576: true; the input reads as it did. -/
def imapOwnUptoRow : OpenClaim := { program := "ytmjjdmofohjkkaa", sum := "6fb97480a8fb47ddc4eeb433ddc390a88139382fca5717d8d1aacf929c8d22fe", func := "linenpress/linenkeep.ImapOwn", spec := "imapOwn", plainKeys := false, apart := false, narrowed := true }
def ImapOwnUptoSaid : Prop := imapOwnUptoRow.holds Try.pinned (OpenSpec.upto imapOwnSpec)

/-- 'linenkeep.DiskOwn', WHERE WHAT IT READS IS OF BULK AT MOST 1048576: true; the input reads as it did. -/
def diskOwnUptoRow : OpenClaim := { program := "ytmjjdmofohjkkaa", sum := "6fb97480a8fb47ddc4eeb433ddc390a88139382fca5717d8d1aacf929c8d22fe", func := "linenpress/linenkeep.DiskOwn", spec := "diskOwn", unfollowed := true, recurses := true, plainKeys := false, apart := false, narrowed := true }
def DiskOwnUptoSaid : Prop := diskOwnUptoRow.holds Try.pinned (OpenSpec.upto diskOwnSpec)

/-- 'linenkeep.OpsOwn', WHERE WHAT IT READS IS OF BULK AT MOST 1048576: true; the input reads as it did. -/
def opsOwnUptoRow : OpenClaim := { program := "ytmjjdmofohjkkaa", sum := "6fb97480a8fb47ddc4eeb433ddc390a88139382fca5717d8d1aacf929c8d22fe", func := "linenpress/linenkeep.OpsOwn", spec := "opsOwn", unfollowed := true, recurses := true, plainKeys := false, apart := false, narrowed := true }
def OpsOwnUptoSaid : Prop := opsOwnUptoRow.holds Try.pinned (OpenSpec.upto opsOwnSpec)

/-- 'linenkeep.LzBack', WHERE WHAT IT READS IS OF BULK AT MOST 1048576: true; the input reads as it did. -/
def lzBackUptoRow : OpenClaim := { program := "ytmjjdmofohjkkaa", sum := "6fb97480a8fb47ddc4eeb433ddc390a88139382fca5717d8d1aacf929c8d22fe", func := "linenpress/linenkeep.LzBack", spec := "lzBack", plainKeys := false, apart := false, narrowed := true }
def LzBackUptoSaid : Prop := lzBackUptoRow.holds Try.pinned (OpenSpec.upto lzBackSpec)

/-- 'linenkeep.LzFewest', WHERE WHAT IT READS IS OF BULK AT MOST 1048576: true; the input reads as it did. -/
def lzFewestUptoRow : OpenClaim := { program := "ytmjjdmofohjkkaa", sum := "6fb97480a8fb47ddc4eeb433ddc390a88139382fca5717d8d1aacf929c8d22fe", func := "linenpress/linenkeep.LzFewest", spec := "lzFewest", plainKeys := false, apart := false, narrowed := true }
def LzFewestUptoSaid : Prop := lzFewestUptoRow.holds Try.pinned (OpenSpec.upto lzFewestSpec)

/-- 'linenkeep.SealBack', WHERE WHAT IT READS IS OF BULK AT MOST 1048576: true; the input reads as it did. -/
def sealBackUptoRow : OpenClaim := { program := "ytmjjdmofohjkkaa", sum := "6fb97480a8fb47ddc4eeb433ddc390a88139382fca5717d8d1aacf929c8d22fe", func := "linenpress/linenkeep.SealBack", spec := "sealBack", plainKeys := false, apart := false, narrowed := true }
def SealBackUptoSaid : Prop := sealBackUptoRow.holds Try.pinned (OpenSpec.upto sealBackSpec)

/-- 'linenkeep.SealBursts', WHERE WHAT IT READS IS OF BULK AT MOST 1048576: true; the input reads as it did. -/
def sealBurstsUptoRow : OpenClaim := { program := "ytmjjdmofohjkkaa", sum := "6fb97480a8fb47ddc4eeb433ddc390a88139382fca5717d8d1aacf929c8d22fe", func := "linenpress/linenkeep.SealBursts", spec := "sealBursts", plainKeys := false, apart := false, narrowed := true }
def SealBurstsUptoSaid : Prop := sealBurstsUptoRow.holds Try.pinned (OpenSpec.upto sealBurstsSpec)

/-- 'linenkeep.SealOne', WHERE WHAT IT READS IS OF BULK AT MOST 1048576: true; the input reads as it did. -/
def sealOneUptoRow : OpenClaim := { program := "ytmjjdmofohjkkaa", sum := "6fb97480a8fb47ddc4eeb433ddc390a88139382fca5717d8d1aacf929c8d22fe", func := "linenpress/linenkeep.SealOne", spec := "sealOne", plainKeys := false, apart := false, narrowed := true }
def SealOneUptoSaid : Prop := sealOneUptoRow.holds Try.pinned (OpenSpec.upto sealOneSpec)

end Rows
end Go.Proofs.Ytmjjdmofohjkkaa
