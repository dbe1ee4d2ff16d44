/-
  DERIVED. GIVEN WITH THE SEED: THE CARDS: each row of YtcbpeampjhegcaaDoorRows.lean that lists a variable, with what it lists TIED to the program's text (the seventh form; the later family's looks); each row that meets fmt, with fmt's text TOLD by the authors' own Lean function (tested against real Go, not proved from fmt's source: count such statements apart). THE CARD IS WHAT COUNTS. Prove the row's statement (the work); the ties are given (YtcbpeampjhegcaaDoorTie.lean); close each card by the builder's one call (the guide's Derived/Test/ToyasCard.lean, 'card_holds'). Laid BY PROGRAM, IN A SANDBOX (cutbox-door.mjs). By AI agents, Wed Nov 11 2026. No macro, syntax, notation, axiom, sorry.
-/
import Derived.Test.YtcbpeampjhegcaaDoorRows
import GoSem.ClaimSeven
namespace Go.Proofs.YtcbpeampjhegcaaDoor
namespace Rows

/-- THE TIED CARD OF 'linenkeep.GlobStars'. -/
def globStarsCard : Claim7 := { stood := { row := globStarsRow, standIns := [], harness := (true, "4b179464d08e5f17c1875d24806f45621f92c250f5c940254c2baa6618547a01"), looks := false }, kinds := [], alts := [], laidByText := true, laidKinds := [.data, .pinned], laidTests := true, laidLooks := .later }
def GlobStarsCardSaid : Prop := Claim7.holds Tryd.pinned (.plain (OpenSpec.ofChange globStarsSpec)) globStarsCard

/-- THE TIED CARD OF 'linenkeep.GlobNot'. -/
def globNotCard : Claim7 := { stood := { row := globNotRow, standIns := [], harness := (true, "4b179464d08e5f17c1875d24806f45621f92c250f5c940254c2baa6618547a01"), looks := false }, kinds := [], alts := [], laidByText := true, laidKinds := [.data, .pinned], laidTests := true, laidLooks := .later }
def GlobNotCardSaid : Prop := Claim7.holds Tryd.pinned (.plain (OpenSpec.ofChange globNotSpec)) globNotCard

/-- THE TIED CARD OF 'linenkeep.GlobSelf'. -/
def globSelfCard : Claim7 := { stood := { row := globSelfRow, standIns := [], harness := (true, "4b179464d08e5f17c1875d24806f45621f92c250f5c940254c2baa6618547a01"), looks := false }, kinds := [], alts := [], laidByText := true, laidKinds := [.data, .pinned], laidTests := true, laidLooks := .later }
def GlobSelfCardSaid : Prop := Claim7.holds Tryd.pinned (.plain (OpenSpec.ofChange globSelfSpec)) globSelfCard

/-- THE SECOND FORM's CARD OF 'linenkeep.GlobStars'. -/
def globStarsUptoCard : Claim7 := { stood := { row := globStarsUptoRow, standIns := [], harness := (true, "4b179464d08e5f17c1875d24806f45621f92c250f5c940254c2baa6618547a01"), looks := false }, kinds := [], alts := [], laidByText := true, laidKinds := [.data, .pinned], laidTests := true, laidLooks := .later }
def GlobStarsUptoCardSaid : Prop := Claim7.holds Tryd.pinned (.plain (OpenSpec.upto globStarsSpec)) globStarsUptoCard

/-- THE SECOND FORM's CARD OF 'linenkeep.GlobNot'. -/
def globNotUptoCard : Claim7 := { stood := { row := globNotUptoRow, standIns := [], harness := (true, "4b179464d08e5f17c1875d24806f45621f92c250f5c940254c2baa6618547a01"), looks := false }, kinds := [], alts := [], laidByText := true, laidKinds := [.data, .pinned], laidTests := true, laidLooks := .later }
def GlobNotUptoCardSaid : Prop := Claim7.holds Tryd.pinned (.plain (OpenSpec.upto globNotSpec)) globNotUptoCard

/-- THE SECOND FORM's CARD OF 'linenkeep.GlobSelf'. -/
def globSelfUptoCard : Claim7 := { stood := { row := globSelfUptoRow, standIns := [], harness := (true, "4b179464d08e5f17c1875d24806f45621f92c250f5c940254c2baa6618547a01"), looks := false }, kinds := [], alts := [], laidByText := true, laidKinds := [.data, .pinned], laidTests := true, laidLooks := .later }
def GlobSelfUptoCardSaid : Prop := Claim7.holds Tryd.pinned (.plain (OpenSpec.upto globSelfSpec)) globSelfUptoCard
end Rows
end Go.Proofs.YtcbpeampjhegcaaDoor
