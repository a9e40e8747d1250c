/-
  DERIVED. GIVEN WITH THE SEED: THE CARDS: each row of YtigljnnjamdcnaaDoorRows.lean that lists a variable, with what it lists TIED to the program's text (the seventh form; the later family's looks); each row that meets fmt, with fmt's text TOLD by the authors' own Lean function (tested against real Go, not proved from fmt's source: count such statements apart). THE CARD IS WHAT COUNTS. Prove the row's statement (the work); the ties are given (YtigljnnjamdcnaaDoorTie.lean); close each card by the builder's one call (the guide's Derived/Test/ToyasCard.lean, 'card_holds'). Laid BY PROGRAM, IN A SANDBOX (cutbox-door.mjs). By AI agents, Wed Nov 11 2026. No macro, syntax, notation, axiom, sorry.
-/
import Derived.Test.YtigljnnjamdcnaaDoorRows
import GoSem.ClaimSeven
namespace Go.Proofs.YtigljnnjamdcnaaDoor
namespace Rows

/-- THE TIED CARD OF 'tranterlaw07.ParsePrints'. -/
def parsePrintsCard : Claim7 := { stood := { row := parsePrintsRow, standIns := [], harness := (true, "c35c67341ff8c74589b212ebd371831e2d377b3195d0a00ac1a049c5f7aa4416"), looks := false }, kinds := [], alts := [], laidByText := true, laidKinds := [.data, .pinned], laidTests := true, laidLooks := .later }
def ParsePrintsCardSaid : Prop := Claim7.holds Tryd.pinned (.plain (OpenSpec.ofChange parsePrintsSpec)) parsePrintsCard

/-- THE TIED CARD OF 'tranterlaw07.ParseAgain'. -/
def parseAgainCard : Claim7 := { stood := { row := parseAgainRow, standIns := [], harness := (true, "c35c67341ff8c74589b212ebd371831e2d377b3195d0a00ac1a049c5f7aa4416"), looks := false }, kinds := [], alts := [], laidByText := true, laidKinds := [.data, .pinned], laidTests := true, laidLooks := .later }
def ParseAgainCardSaid : Prop := Claim7.holds Tryd.pinned (.plain (OpenSpec.ofChange parseAgainSpec)) parseAgainCard

/-- THE TIED CARD OF 'tranterlaw07.ParseRange'. -/
def parseRangeCard : Claim7 := { stood := { row := parseRangeRow, standIns := [], harness := (true, "c35c67341ff8c74589b212ebd371831e2d377b3195d0a00ac1a049c5f7aa4416"), looks := false }, kinds := [], alts := [], laidByText := true, laidKinds := [.data, .pinned], laidTests := true, laidLooks := .later }
def ParseRangeCardSaid : Prop := Claim7.holds Tryd.pinned (.plain (OpenSpec.ofChange parseRangeSpec)) parseRangeCard

/-- THE TIED CARD OF 'tranterlaw07.ParseApart'. -/
def parseApartCard : Claim7 := { stood := { row := parseApartRow, standIns := [], harness := (true, "c35c67341ff8c74589b212ebd371831e2d377b3195d0a00ac1a049c5f7aa4416"), looks := false }, kinds := [], alts := [], laidByText := true, laidKinds := [.data, .pinned], laidTests := true, laidLooks := .later }
def ParseApartCardSaid : Prop := Claim7.holds Tryd.pinned (.plain (OpenSpec.ofChange parseApartSpec)) parseApartCard

/-- THE TIED CARD OF 'tranterlaw07.ParseMore'. -/
def parseMoreCard : Claim7 := { stood := { row := parseMoreRow, standIns := [], harness := (true, "c35c67341ff8c74589b212ebd371831e2d377b3195d0a00ac1a049c5f7aa4416"), looks := false }, kinds := [], alts := [], laidByText := true, laidKinds := [.data, .pinned], laidTests := true, laidLooks := .later }
def ParseMoreCardSaid : Prop := Claim7.holds Tryd.pinned (.plain (OpenSpec.ofChange parseMoreSpec)) parseMoreCard

/-- THE SECOND FORM's CARD OF 'tranterlaw07.ParsePrints'. -/
def parsePrintsUptoCard : Claim7 := { stood := { row := parsePrintsUptoRow, standIns := [], harness := (true, "c35c67341ff8c74589b212ebd371831e2d377b3195d0a00ac1a049c5f7aa4416"), looks := false }, kinds := [], alts := [], laidByText := true, laidKinds := [.data, .pinned], laidTests := true, laidLooks := .later }
def ParsePrintsUptoCardSaid : Prop := Claim7.holds Tryd.pinned (.plain (OpenSpec.upto parsePrintsSpec)) parsePrintsUptoCard

/-- THE SECOND FORM's CARD OF 'tranterlaw07.ParseAgain'. -/
def parseAgainUptoCard : Claim7 := { stood := { row := parseAgainUptoRow, standIns := [], harness := (true, "c35c67341ff8c74589b212ebd371831e2d377b3195d0a00ac1a049c5f7aa4416"), looks := false }, kinds := [], alts := [], laidByText := true, laidKinds := [.data, .pinned], laidTests := true, laidLooks := .later }
def ParseAgainUptoCardSaid : Prop := Claim7.holds Tryd.pinned (.plain (OpenSpec.upto parseAgainSpec)) parseAgainUptoCard

/-- THE SECOND FORM's CARD OF 'tranterlaw07.ParseRange'. -/
def parseRangeUptoCard : Claim7 := { stood := { row := parseRangeUptoRow, standIns := [], harness := (true, "c35c67341ff8c74589b212ebd371831e2d377b3195d0a00ac1a049c5f7aa4416"), looks := false }, kinds := [], alts := [], laidByText := true, laidKinds := [.data, .pinned], laidTests := true, laidLooks := .later }
def ParseRangeUptoCardSaid : Prop := Claim7.holds Tryd.pinned (.plain (OpenSpec.upto parseRangeSpec)) parseRangeUptoCard

/-- THE SECOND FORM's CARD OF 'tranterlaw07.ParseApart'. -/
def parseApartUptoCard : Claim7 := { stood := { row := parseApartUptoRow, standIns := [], harness := (true, "c35c67341ff8c74589b212ebd371831e2d377b3195d0a00ac1a049c5f7aa4416"), looks := false }, kinds := [], alts := [], laidByText := true, laidKinds := [.data, .pinned], laidTests := true, laidLooks := .later }
def ParseApartUptoCardSaid : Prop := Claim7.holds Tryd.pinned (.plain (OpenSpec.upto parseApartSpec)) parseApartUptoCard

/-- THE SECOND FORM's CARD OF 'tranterlaw07.ParseMore'. -/
def parseMoreUptoCard : Claim7 := { stood := { row := parseMoreUptoRow, standIns := [], harness := (true, "c35c67341ff8c74589b212ebd371831e2d377b3195d0a00ac1a049c5f7aa4416"), looks := false }, kinds := [], alts := [], laidByText := true, laidKinds := [.data, .pinned], laidTests := true, laidLooks := .later }
def ParseMoreUptoCardSaid : Prop := Claim7.holds Tryd.pinned (.plain (OpenSpec.upto parseMoreSpec)) parseMoreUptoCard
end Rows
end Go.Proofs.YtigljnnjamdcnaaDoor
