/-
  DERIVED. GIVEN WITH THE SEED: THE CARDS: each row of YtddhcmibimabnaaDoorRows.lean that lists a variable, with what it lists TIED to the program's text (the seventh form; the later family's looks); each row that meets fmt, with fmt's text TOLD by the authors' own Lean function (tested against real Go, not proved from fmt's source: count such statements apart). THE CARD IS WHAT COUNTS. Prove the row's statement (the work); the ties are given (YtddhcmibimabnaaDoorTie.lean); close each card by the builder's one call (the guide's Derived/Test/ToyasCard.lean, 'card_holds'). Laid BY PROGRAM, IN A SANDBOX (cutbox-door.mjs). By AI agents, Wed Nov 11 2026. No macro, syntax, notation, axiom, sorry.
-/
import Derived.Test.YtddhcmibimabnaaDoorRows
import GoSem.ClaimSeven
namespace Go.Proofs.YtddhcmibimabnaaDoor
namespace Rows

/-- THE TIED CARD OF 'tranterlaw05.TextLines'. -/
def textLinesCard : Claim7 := { stood := { row := textLinesRow, standIns := [], harness := (true, "64f70cd4b7ec35c6beb3e5a1414c1d6a5f00f9d9fe2b40646983c0117b92cc25"), looks := false }, kinds := [], alts := [], laidByText := true, laidKinds := [.data, .pinned], laidTests := true, laidLooks := .later }
def TextLinesCardSaid : Prop := Claim7.holds Tryd.pinned (.plain (OpenSpec.ofChange textLinesSpec)) textLinesCard

/-- THE TIED CARD OF 'tranterlaw05.TextJoins'. -/
def textJoinsCard : Claim7 := { stood := { row := textJoinsRow, standIns := [], harness := (true, "64f70cd4b7ec35c6beb3e5a1414c1d6a5f00f9d9fe2b40646983c0117b92cc25"), looks := false }, kinds := [], alts := [], laidByText := true, laidKinds := [.data, .pinned], laidTests := true, laidLooks := .later }
def TextJoinsCardSaid : Prop := Claim7.holds Tryd.pinned (.plain (OpenSpec.ofChange textJoinsSpec)) textJoinsCard

/-- THE TIED CARD OF 'tranterlaw05.TextNumbers'. -/
def textNumbersCard : Claim7 := { stood := { row := textNumbersRow, standIns := [], harness := (true, "64f70cd4b7ec35c6beb3e5a1414c1d6a5f00f9d9fe2b40646983c0117b92cc25"), looks := false }, kinds := [], alts := [], laidByText := true, laidKinds := [.data, .pinned], laidTests := true, laidLooks := .later }
def TextNumbersCardSaid : Prop := Claim7.holds Tryd.pinned (.plain (OpenSpec.ofChange textNumbersSpec)) textNumbersCard

/-- THE TIED CARD OF 'tranterlaw05.TextApart'. -/
def textApartCard : Claim7 := { stood := { row := textApartRow, standIns := [], harness := (true, "64f70cd4b7ec35c6beb3e5a1414c1d6a5f00f9d9fe2b40646983c0117b92cc25"), looks := false }, kinds := [], alts := [], laidByText := true, laidKinds := [.data, .pinned], laidTests := true, laidLooks := .later }
def TextApartCardSaid : Prop := Claim7.holds Tryd.pinned (.plain (OpenSpec.ofChange textApartSpec)) textApartCard

/-- THE TIED CARD OF 'tranterlaw05.TextMany'. -/
def textManyCard : Claim7 := { stood := { row := textManyRow, standIns := [], harness := (true, "64f70cd4b7ec35c6beb3e5a1414c1d6a5f00f9d9fe2b40646983c0117b92cc25"), looks := false }, kinds := [], alts := [], laidByText := true, laidKinds := [.data, .pinned], laidTests := true, laidLooks := .later }
def TextManyCardSaid : Prop := Claim7.holds Tryd.pinned (.plain (OpenSpec.ofChange textManySpec)) textManyCard

/-- THE TIED CARD OF 'tranterlaw05.TextRound'. -/
def textRoundCard : Claim7 := { stood := { row := textRoundRow, standIns := [], harness := (true, "64f70cd4b7ec35c6beb3e5a1414c1d6a5f00f9d9fe2b40646983c0117b92cc25"), looks := false }, kinds := [], alts := [], laidByText := true, laidKinds := [.data, .pinned], laidTests := true, laidLooks := .later }
def TextRoundCardSaid : Prop := Claim7.holds Tryd.pinned (.plain (OpenSpec.ofChange textRoundSpec)) textRoundCard

/-- THE SECOND FORM's CARD OF 'tranterlaw05.TextLines'. -/
def textLinesUptoCard : Claim7 := { stood := { row := textLinesUptoRow, standIns := [], harness := (true, "64f70cd4b7ec35c6beb3e5a1414c1d6a5f00f9d9fe2b40646983c0117b92cc25"), looks := false }, kinds := [], alts := [], laidByText := true, laidKinds := [.data, .pinned], laidTests := true, laidLooks := .later }
def TextLinesUptoCardSaid : Prop := Claim7.holds Tryd.pinned (.plain (OpenSpec.upto textLinesSpec)) textLinesUptoCard

/-- THE SECOND FORM's CARD OF 'tranterlaw05.TextJoins'. -/
def textJoinsUptoCard : Claim7 := { stood := { row := textJoinsUptoRow, standIns := [], harness := (true, "64f70cd4b7ec35c6beb3e5a1414c1d6a5f00f9d9fe2b40646983c0117b92cc25"), looks := false }, kinds := [], alts := [], laidByText := true, laidKinds := [.data, .pinned], laidTests := true, laidLooks := .later }
def TextJoinsUptoCardSaid : Prop := Claim7.holds Tryd.pinned (.plain (OpenSpec.upto textJoinsSpec)) textJoinsUptoCard

/-- THE SECOND FORM's CARD OF 'tranterlaw05.TextNumbers'. -/
def textNumbersUptoCard : Claim7 := { stood := { row := textNumbersUptoRow, standIns := [], harness := (true, "64f70cd4b7ec35c6beb3e5a1414c1d6a5f00f9d9fe2b40646983c0117b92cc25"), looks := false }, kinds := [], alts := [], laidByText := true, laidKinds := [.data, .pinned], laidTests := true, laidLooks := .later }
def TextNumbersUptoCardSaid : Prop := Claim7.holds Tryd.pinned (.plain (OpenSpec.upto textNumbersSpec)) textNumbersUptoCard

/-- THE SECOND FORM's CARD OF 'tranterlaw05.TextApart'. -/
def textApartUptoCard : Claim7 := { stood := { row := textApartUptoRow, standIns := [], harness := (true, "64f70cd4b7ec35c6beb3e5a1414c1d6a5f00f9d9fe2b40646983c0117b92cc25"), looks := false }, kinds := [], alts := [], laidByText := true, laidKinds := [.data, .pinned], laidTests := true, laidLooks := .later }
def TextApartUptoCardSaid : Prop := Claim7.holds Tryd.pinned (.plain (OpenSpec.upto textApartSpec)) textApartUptoCard

/-- THE SECOND FORM's CARD OF 'tranterlaw05.TextMany'. -/
def textManyUptoCard : Claim7 := { stood := { row := textManyUptoRow, standIns := [], harness := (true, "64f70cd4b7ec35c6beb3e5a1414c1d6a5f00f9d9fe2b40646983c0117b92cc25"), looks := false }, kinds := [], alts := [], laidByText := true, laidKinds := [.data, .pinned], laidTests := true, laidLooks := .later }
def TextManyUptoCardSaid : Prop := Claim7.holds Tryd.pinned (.plain (OpenSpec.upto textManySpec)) textManyUptoCard

/-- THE SECOND FORM's CARD OF 'tranterlaw05.TextRound'. -/
def textRoundUptoCard : Claim7 := { stood := { row := textRoundUptoRow, standIns := [], harness := (true, "64f70cd4b7ec35c6beb3e5a1414c1d6a5f00f9d9fe2b40646983c0117b92cc25"), looks := false }, kinds := [], alts := [], laidByText := true, laidKinds := [.data, .pinned], laidTests := true, laidLooks := .later }
def TextRoundUptoCardSaid : Prop := Claim7.holds Tryd.pinned (.plain (OpenSpec.upto textRoundSpec)) textRoundUptoCard
end Rows
end Go.Proofs.YtddhcmibimabnaaDoor
