/-
  DERIVED. GIVEN WITH THE SEED: THE CARDS: each row of YtbihpjngmjkjmaaDoorRows.lean that lists a variable, with what it lists TIED to the program's text (the seventh form; the later family's looks); each row that meets fmt, with fmt's text TOLD by the authors' own Lean function (tested against real Go, not proved from fmt's source: count such statements apart). THE CARD IS WHAT COUNTS. Prove the row's statement (the work); the ties are given (YtbihpjngmjkjmaaDoorTie.lean); close each card by the builder's one call (the guide's Derived/Test/ToyasCard.lean, 'card_holds'). Laid BY PROGRAM, IN A SANDBOX (cutbox-door.mjs). By AI agents, Wed Nov 11 2026. No macro, syntax, notation, axiom, sorry.
-/
import Derived.Test.YtbihpjngmjkjmaaDoorRows
import GoSem.ClaimSeven
namespace Go.Proofs.YtbihpjngmjkjmaaDoor
namespace Rows

/-- THE TIED CARD OF 'laws.FnExactDecText'. -/
def fnExactDecTextCard : Claim7 := { stood := { row := fnExactDecTextRow, standIns := [], harness := (true, "272024c1716d84bee75a23292172e1c88d4d3b83d32d109d6380d59ad6a9c9af"), looks := true }, kinds := [], alts := [], laidByText := true, laidKinds := [.data, .data, .data], laidTests := true, laidLooks := .later }
def FnExactDecTextCardSaid : Prop := Claim7.holds Tryd.pinned (.plain (OpenSpec.ofChange fnExactDecTextSpec)) fnExactDecTextCard

/-- THE TIED CARD OF 'laws.FnExactPlaceText'. -/
def fnExactPlaceTextCard : Claim7 := { stood := { row := fnExactPlaceTextRow, standIns := [], harness := (true, "272024c1716d84bee75a23292172e1c88d4d3b83d32d109d6380d59ad6a9c9af"), looks := true }, kinds := [], alts := [], laidByText := true, laidKinds := [.data, .data, .data], laidTests := true, laidLooks := .later }
def FnExactPlaceTextCardSaid : Prop := Claim7.holds Tryd.pinned (.plain (OpenSpec.ofChange fnExactPlaceTextSpec)) fnExactPlaceTextCard

/-- THE TIED CARD OF 'laws.FnExactWords'. -/
def fnExactWordsCard : Claim7 := { stood := { row := fnExactWordsRow, standIns := [], harness := (true, "272024c1716d84bee75a23292172e1c88d4d3b83d32d109d6380d59ad6a9c9af"), looks := true }, kinds := [], alts := [], laidByText := true, laidKinds := [.data, .pinned], laidTests := true, laidLooks := .later }
def FnExactWordsCardSaid : Prop := Claim7.holds Tryd.pinned (.plain (OpenSpec.ofChange fnExactWordsSpec)) fnExactWordsCard

/-- THE TIED CARD OF 'laws.FnExactEndText'. -/
def fnExactEndTextCard : Claim7 := { stood := { row := fnExactEndTextRow, standIns := [], harness := (true, "272024c1716d84bee75a23292172e1c88d4d3b83d32d109d6380d59ad6a9c9af"), looks := true }, kinds := [], alts := [], laidByText := true, laidKinds := [.data, .data, .data], laidTests := true, laidLooks := .later }
def FnExactEndTextCardSaid : Prop := Claim7.holds Tryd.pinned (.plain (OpenSpec.ofChange fnExactEndTextSpec)) fnExactEndTextCard

/-- THE TIED CARD OF 'laws.FnExactReadInt'. -/
def fnExactReadIntCard : Claim7 := { stood := { row := fnExactReadIntRow, standIns := [], harness := (true, "272024c1716d84bee75a23292172e1c88d4d3b83d32d109d6380d59ad6a9c9af"), looks := true }, kinds := [], alts := [], laidByText := true, laidKinds := [.data, .data, .data, .sentinel, .sentinel], laidTests := true, laidLooks := .later }
def FnExactReadIntCardSaid : Prop := Claim7.holds Tryd.pinned (.plain (OpenSpec.ofChange fnExactReadIntSpec)) fnExactReadIntCard

/-- THE TIED CARD OF 'laws.FnExactLex'. -/
def fnExactLexCard : Claim7 := { stood := { row := fnExactLexRow, standIns := [], harness := (true, "272024c1716d84bee75a23292172e1c88d4d3b83d32d109d6380d59ad6a9c9af"), looks := true }, kinds := [], alts := [], laidByText := true, laidKinds := [.data, .data, .data, .sentinel, .sentinel], laidTests := true, laidLooks := .later }
def FnExactLexCardSaid : Prop := Claim7.holds Tryd.pinned (.plain (OpenSpec.ofChange fnExactLexSpec)) fnExactLexCard

/-- THE TIED CARD OF 'laws.FnLex'. -/
def fnLexCard : Claim7 := { stood := { row := fnLexRow, standIns := [], harness := (true, "272024c1716d84bee75a23292172e1c88d4d3b83d32d109d6380d59ad6a9c9af"), looks := true }, kinds := [], alts := [], laidByText := true, laidKinds := [.data, .data, .data, .data, .sentinel, .sentinel, .pinned], laidTests := true, laidLooks := .later }
def FnLexCardSaid : Prop := Claim7.holds Tryd.pinned (.plain (OpenSpec.ofChange fnLexSpec)) fnLexCard

/-- THE SECOND FORM's CARD OF 'laws.FnExactDecText'. -/
def fnExactDecTextUptoCard : Claim7 := { stood := { row := fnExactDecTextUptoRow, standIns := [], harness := (true, "272024c1716d84bee75a23292172e1c88d4d3b83d32d109d6380d59ad6a9c9af"), looks := true }, kinds := [], alts := [], laidByText := true, laidKinds := [.data, .data, .data], laidTests := true, laidLooks := .later }
def FnExactDecTextUptoCardSaid : Prop := Claim7.holds Tryd.pinned (.plain (OpenSpec.upto fnExactDecTextSpec)) fnExactDecTextUptoCard

/-- THE SECOND FORM's CARD OF 'laws.FnExactPlaceText'. -/
def fnExactPlaceTextUptoCard : Claim7 := { stood := { row := fnExactPlaceTextUptoRow, standIns := [], harness := (true, "272024c1716d84bee75a23292172e1c88d4d3b83d32d109d6380d59ad6a9c9af"), looks := true }, kinds := [], alts := [], laidByText := true, laidKinds := [.data, .data, .data], laidTests := true, laidLooks := .later }
def FnExactPlaceTextUptoCardSaid : Prop := Claim7.holds Tryd.pinned (.plain (OpenSpec.upto fnExactPlaceTextSpec)) fnExactPlaceTextUptoCard

/-- THE SECOND FORM's CARD OF 'laws.FnExactWords'. -/
def fnExactWordsUptoCard : Claim7 := { stood := { row := fnExactWordsUptoRow, standIns := [], harness := (true, "272024c1716d84bee75a23292172e1c88d4d3b83d32d109d6380d59ad6a9c9af"), looks := true }, kinds := [], alts := [], laidByText := true, laidKinds := [.data, .pinned], laidTests := true, laidLooks := .later }
def FnExactWordsUptoCardSaid : Prop := Claim7.holds Tryd.pinned (.plain (OpenSpec.upto fnExactWordsSpec)) fnExactWordsUptoCard

/-- THE SECOND FORM's CARD OF 'laws.FnExactEndText'. -/
def fnExactEndTextUptoCard : Claim7 := { stood := { row := fnExactEndTextUptoRow, standIns := [], harness := (true, "272024c1716d84bee75a23292172e1c88d4d3b83d32d109d6380d59ad6a9c9af"), looks := true }, kinds := [], alts := [], laidByText := true, laidKinds := [.data, .data, .data], laidTests := true, laidLooks := .later }
def FnExactEndTextUptoCardSaid : Prop := Claim7.holds Tryd.pinned (.plain (OpenSpec.upto fnExactEndTextSpec)) fnExactEndTextUptoCard

/-- THE SECOND FORM's CARD OF 'laws.FnExactReadInt'. -/
def fnExactReadIntUptoCard : Claim7 := { stood := { row := fnExactReadIntUptoRow, standIns := [], harness := (true, "272024c1716d84bee75a23292172e1c88d4d3b83d32d109d6380d59ad6a9c9af"), looks := true }, kinds := [], alts := [], laidByText := true, laidKinds := [.data, .data, .data, .sentinel, .sentinel], laidTests := true, laidLooks := .later }
def FnExactReadIntUptoCardSaid : Prop := Claim7.holds Tryd.pinned (.plain (OpenSpec.upto fnExactReadIntSpec)) fnExactReadIntUptoCard

/-- THE SECOND FORM's CARD OF 'laws.FnExactLex'. -/
def fnExactLexUptoCard : Claim7 := { stood := { row := fnExactLexUptoRow, standIns := [], harness := (true, "272024c1716d84bee75a23292172e1c88d4d3b83d32d109d6380d59ad6a9c9af"), looks := true }, kinds := [], alts := [], laidByText := true, laidKinds := [.data, .data, .data, .sentinel, .sentinel], laidTests := true, laidLooks := .later }
def FnExactLexUptoCardSaid : Prop := Claim7.holds Tryd.pinned (.plain (OpenSpec.upto fnExactLexSpec)) fnExactLexUptoCard

/-- THE SECOND FORM's CARD OF 'laws.FnLex'. -/
def fnLexUptoCard : Claim7 := { stood := { row := fnLexUptoRow, standIns := [], harness := (true, "272024c1716d84bee75a23292172e1c88d4d3b83d32d109d6380d59ad6a9c9af"), looks := true }, kinds := [], alts := [], laidByText := true, laidKinds := [.data, .data, .data, .data, .sentinel, .sentinel, .pinned], laidTests := true, laidLooks := .later }
def FnLexUptoCardSaid : Prop := Claim7.holds Tryd.pinned (.plain (OpenSpec.upto fnLexSpec)) fnLexUptoCard
end Rows
end Go.Proofs.YtbihpjngmjkjmaaDoor
