/-
  DERIVED. GIVEN WITH THE SEED: THE CARDS: each row of YtokdneolgolkbaaDoorRows.lean that lists a variable, with what it lists TIED to the program's text (the seventh form; the later family's looks); each row that meets fmt, with fmt's text TOLD by the authors' own Lean function (tested against real Go, not proved from fmt's source: count such statements apart). THE CARD IS WHAT COUNTS. Prove the row's statement (the work); the ties are given (YtokdneolgolkbaaDoorTie.lean); close each card by the builder's one call (the guide's Derived/Test/ToyasCard.lean, 'card_holds'). Laid BY PROGRAM, IN A SANDBOX (cutbox-door.mjs). By AI agents, Wed Nov 11 2026. No macro, syntax, notation, axiom, sorry.
-/
import Derived.Test.YtokdneolgolkbaaDoorRows
import GoSem.ClaimSeven
namespace Go.Proofs.YtokdneolgolkbaaDoor
namespace Rows

/-- THE TIED CARD OF 'tranterlaw08.BookPrints'. -/
def bookPrintsCard : Claim7 := { stood := { row := bookPrintsRow, standIns := [], harness := (true, "b492cc02b5b273bed942e9904c09c9b5b3133a74de2332ca3660a573afd1ee4c"), looks := false }, kinds := [], alts := [], laidByText := true, laidKinds := [.data, .pinned], laidTests := true, laidLooks := .later }
def BookPrintsCardSaid : Prop := Claim7.holds Tryd.pinned (.plain (OpenSpec.ofChange bookPrintsSpec)) bookPrintsCard

/-- THE SECOND FORM's CARD OF 'tranterlaw08.BookPrints'. -/
def bookPrintsUptoCard : Claim7 := { stood := { row := bookPrintsUptoRow, standIns := [], harness := (true, "b492cc02b5b273bed942e9904c09c9b5b3133a74de2332ca3660a573afd1ee4c"), looks := false }, kinds := [], alts := [], laidByText := true, laidKinds := [.data, .pinned], laidTests := true, laidLooks := .later }
def BookPrintsUptoCardSaid : Prop := Claim7.holds Tryd.pinned (.plain (OpenSpec.upto bookPrintsSpec)) bookPrintsUptoCard
end Rows
end Go.Proofs.YtokdneolgolkbaaDoor
