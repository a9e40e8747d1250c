/-
  DERIVED. GIVEN WITH THE SEED: THE CARDS: each row of YtgimnjldndkalaaGreatDoorRows.lean that lists a variable, with what it lists TIED to the program's text (the seventh form; the later family's looks); each row that meets fmt, with fmt's text TOLD by the authors' own Lean function (tested against real Go, not proved from fmt's source: count such statements apart). THE CARD IS WHAT COUNTS. Prove the row's statement (the work); the ties are given (YtgimnjldndkalaaGreatDoorTie.lean); close each card by the builder's one call (the guide's Derived/Test/ToyasCard.lean, 'card_holds'). Laid BY PROGRAM, IN A SANDBOX (cutbox-door.mjs). By AI agents, Wed Nov 11 2026. No macro, syntax, notation, axiom, sorry.
-/
import Derived.Test.YtgimnjldndkalaaGreatDoorRows
import GoSem.ClaimSeven
namespace Go.Proofs.YtgimnjldndkalaaGreatDoor
namespace Rows

/-- THE TIED CARD OF 'trantertop.TopCosts'. -/
def topCostsCard : Claim7 := { stood := { row := topCostsRow, standIns := [], harness := (true, "daae70411c7369558de5b0ae4f0bb4717236295ec8a9f36955bada3812362b92"), looks := true }, kinds := [], alts := [], laidByText := true, laidKinds := [.data, .pinned], laidTests := true, laidLooks := .later }
def TopCostsCardSaid : Prop := Claim7.holds Tryz.pinned (.plain (OpenSpec.ofChange topCostsSpec)) topCostsCard

/-- THE TIED CARD OF 'trantertop.TopGreat'. -/
def topGreatCard : Claim7 := { stood := { row := topGreatRow, standIns := [], harness := (true, "daae70411c7369558de5b0ae4f0bb4717236295ec8a9f36955bada3812362b92"), looks := true }, kinds := [], alts := [], laidByText := true, laidKinds := [.data, .pinned], laidTests := true, laidLooks := .later }
def TopGreatCardSaid : Prop := Claim7.holds Tryz.pinned (.plain (OpenSpec.ofChange topGreatSpec)) topGreatCard

/-- THE TIED CARD OF 'trantertop.TopBounds'. -/
def topBoundsCard : Claim7 := { stood := { row := topBoundsRow, standIns := [], harness := (true, "daae70411c7369558de5b0ae4f0bb4717236295ec8a9f36955bada3812362b92"), looks := true }, kinds := [], alts := [], laidByText := true, laidKinds := [.data, .pinned], laidTests := true, laidLooks := .later }
def TopBoundsCardSaid : Prop := Claim7.holds Tryz.pinned (.plain (OpenSpec.ofChange topBoundsSpec)) topBoundsCard

/-- THE SECOND FORM's CARD OF 'trantertop.TopCosts'. -/
def topCostsUptoCard : Claim7 := { stood := { row := topCostsUptoRow, standIns := [], harness := (true, "daae70411c7369558de5b0ae4f0bb4717236295ec8a9f36955bada3812362b92"), looks := true }, kinds := [], alts := [], laidByText := true, laidKinds := [.data, .pinned], laidTests := true, laidLooks := .later }
def TopCostsUptoCardSaid : Prop := Claim7.holds Tryz.pinned (.plain (OpenSpec.upto topCostsSpec)) topCostsUptoCard

/-- THE SECOND FORM's CARD OF 'trantertop.TopGreat'. -/
def topGreatUptoCard : Claim7 := { stood := { row := topGreatUptoRow, standIns := [], harness := (true, "daae70411c7369558de5b0ae4f0bb4717236295ec8a9f36955bada3812362b92"), looks := true }, kinds := [], alts := [], laidByText := true, laidKinds := [.data, .pinned], laidTests := true, laidLooks := .later }
def TopGreatUptoCardSaid : Prop := Claim7.holds Tryz.pinned (.plain (OpenSpec.upto topGreatSpec)) topGreatUptoCard

/-- THE SECOND FORM's CARD OF 'trantertop.TopBounds'. -/
def topBoundsUptoCard : Claim7 := { stood := { row := topBoundsUptoRow, standIns := [], harness := (true, "daae70411c7369558de5b0ae4f0bb4717236295ec8a9f36955bada3812362b92"), looks := true }, kinds := [], alts := [], laidByText := true, laidKinds := [.data, .pinned], laidTests := true, laidLooks := .later }
def TopBoundsUptoCardSaid : Prop := Claim7.holds Tryz.pinned (.plain (OpenSpec.upto topBoundsSpec)) topBoundsUptoCard
end Rows
end Go.Proofs.YtgimnjldndkalaaGreatDoor
