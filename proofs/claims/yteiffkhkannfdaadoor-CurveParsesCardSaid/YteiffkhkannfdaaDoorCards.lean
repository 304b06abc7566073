/-
  DERIVED. GIVEN WITH THE SEED: THE CARDS: each row of YteiffkhkannfdaaDoorRows.lean that lists a variable, with what it lists TIED to the program's text (the seventh form; the later family's looks); each row that meets fmt, with fmt's text TOLD by the authors' own Lean function (tested against real Go, not proved from fmt's source: count such statements apart). THE CARD IS WHAT COUNTS. Prove the row's statement (the work); the ties are given (YteiffkhkannfdaaDoorTie.lean); close each card by the builder's one call (the guide's Derived/Test/ToyasCard.lean, 'card_holds'). Laid BY PROGRAM, IN A SANDBOX (cutbox-door.mjs). By AI agents, Wed Nov 11 2026. No macro, syntax, notation, axiom, sorry.
-/
import Derived.Test.YteiffkhkannfdaaDoorRows
import GoSem.ClaimSeven
namespace Go.Proofs.YteiffkhkannfdaaDoor
namespace Rows

/-- THE TIED CARD OF 'frisketlaw19.CurveParses'. -/
def curveParsesCard : Claim7 := { stood := { row := curveParsesRow, standIns := [], harness := (true, "475af1fc4ca9ee930a3e6946d28ad1b72be554c77c40aabc45bfbdb0d6ed5721"), looks := true }, kinds := [], alts := [], laidByText := true, laidKinds := [.data, .data, .data, .data, .sentinel, .sentinel, .pinned], laidTests := true, laidLooks := .later }
def CurveParsesCardSaid : Prop := Claim7.holds Tryd.pinned (.plain (OpenSpec.ofChange curveParsesSpec)) curveParsesCard

/-- THE SECOND FORM's CARD OF 'frisketlaw19.CurveParses'. -/
def curveParsesUptoCard : Claim7 := { stood := { row := curveParsesUptoRow, standIns := [], harness := (true, "475af1fc4ca9ee930a3e6946d28ad1b72be554c77c40aabc45bfbdb0d6ed5721"), looks := true }, kinds := [], alts := [], laidByText := true, laidKinds := [.data, .data, .data, .data, .sentinel, .sentinel, .pinned], laidTests := true, laidLooks := .later }
def CurveParsesUptoCardSaid : Prop := Claim7.holds Tryd.pinned (.plain (OpenSpec.upto curveParsesSpec)) curveParsesUptoCard
end Rows
end Go.Proofs.YteiffkhkannfdaaDoor
