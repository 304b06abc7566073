/-
  DERIVED. GIVEN WITH THE SEED: THE CARDS: each row of YtifpjidkfemkfaaDoorRows.lean that lists a variable, with what it lists TIED to the program's text (the seventh form; the later family's looks); each row that meets fmt, with fmt's text TOLD by the authors' own Lean function (tested against real Go, not proved from fmt's source: count such statements apart). THE CARD IS WHAT COUNTS. Prove the row's statement (the work); the ties are given (YtifpjidkfemkfaaDoorTie.lean); close each card by the builder's one call (the guide's Derived/Test/ToyasCard.lean, 'card_holds'). Laid BY PROGRAM, IN A SANDBOX (cutbox-door.mjs). By AI agents, Wed Nov 11 2026. No macro, syntax, notation, axiom, sorry.
-/
import Derived.Test.YtifpjidkfemkfaaDoorRows
import GoSem.ClaimSeven
namespace Go.Proofs.YtifpjidkfemkfaaDoor
namespace Rows

/-- THE TIED CARD OF 'frisketlaw04.ExpandTells'. -/
def expandTellsCard : Claim7 := { stood := { row := expandTellsRow, standIns := [], harness := (true, "dabcb011cb59824c4326270027ac945f0d0dbacffb5743d1430a9b00276c5bb3"), looks := true }, kinds := [], alts := [], laidByText := true, laidKinds := [.data, .pinned], laidTests := true, laidLooks := .later }
def ExpandTellsCardSaid : Prop := Claim7.holds Tryd.pinned (.plain (OpenSpec.ofChange expandTellsSpec)) expandTellsCard

/-- THE TIED CARD OF 'frisketlaw04.ExpandJoins'. -/
def expandJoinsCard : Claim7 := { stood := { row := expandJoinsRow, standIns := [], harness := (true, "dabcb011cb59824c4326270027ac945f0d0dbacffb5743d1430a9b00276c5bb3"), looks := true }, kinds := [], alts := [], laidByText := true, laidKinds := [.data, .pinned], laidTests := true, laidLooks := .later }
def ExpandJoinsCardSaid : Prop := Claim7.holds Tryd.pinned (.plain (OpenSpec.ofChange expandJoinsSpec)) expandJoinsCard

/-- THE SECOND FORM's CARD OF 'frisketlaw04.ExpandTells'. -/
def expandTellsUptoCard : Claim7 := { stood := { row := expandTellsUptoRow, standIns := [], harness := (true, "dabcb011cb59824c4326270027ac945f0d0dbacffb5743d1430a9b00276c5bb3"), looks := true }, kinds := [], alts := [], laidByText := true, laidKinds := [.data, .pinned], laidTests := true, laidLooks := .later }
def ExpandTellsUptoCardSaid : Prop := Claim7.holds Tryd.pinned (.plain (OpenSpec.upto expandTellsSpec)) expandTellsUptoCard

/-- THE SECOND FORM's CARD OF 'frisketlaw04.ExpandJoins'. -/
def expandJoinsUptoCard : Claim7 := { stood := { row := expandJoinsUptoRow, standIns := [], harness := (true, "dabcb011cb59824c4326270027ac945f0d0dbacffb5743d1430a9b00276c5bb3"), looks := true }, kinds := [], alts := [], laidByText := true, laidKinds := [.data, .pinned], laidTests := true, laidLooks := .later }
def ExpandJoinsUptoCardSaid : Prop := Claim7.holds Tryd.pinned (.plain (OpenSpec.upto expandJoinsSpec)) expandJoinsUptoCard
end Rows
end Go.Proofs.YtifpjidkfemkfaaDoor
