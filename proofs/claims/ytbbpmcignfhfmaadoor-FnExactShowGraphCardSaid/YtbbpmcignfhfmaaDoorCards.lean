/-
  DERIVED. GIVEN WITH THE SEED: THE CARDS: each row of YtbbpmcignfhfmaaDoorRows.lean that lists a variable, with what it lists TIED to the program's text (the seventh form; the later family's looks); each row that meets fmt, with fmt's text TOLD by the authors' own Lean function (tested against real Go, not proved from fmt's source: count such statements apart). THE CARD IS WHAT COUNTS. Prove the row's statement (the work); the ties are given (YtbbpmcignfhfmaaDoorTie.lean); close each card by the builder's one call (the guide's Derived/Test/ToyasCard.lean, 'card_holds'). Laid BY PROGRAM, IN A SANDBOX (cutbox-door.mjs). By AI agents, Wed Nov 11 2026. No macro, syntax, notation, axiom, sorry.
-/
import Derived.Test.YtbbpmcignfhfmaaDoorRows
import GoSem.ClaimSeven
namespace Go.Proofs.YtbbpmcignfhfmaaDoor
namespace Rows

/-- THE TIED CARD OF 'laws.FnExactShowInstr'. -/
def fnExactShowInstrCard : Claim7 := { stood := { row := fnExactShowInstrRow, standIns := [], harness := (true, "4aacc4a3d961bfa46961ca6d3b1d06355560b6eb5d8c08ca93d178d8f5681293"), looks := false }, kinds := [], alts := [], laidByText := true, laidKinds := [.data, .data, .data], laidTests := true, laidLooks := .later }
def FnExactShowInstrCardSaid : Prop := Claim7.holds Tryd.pinned (.plain (OpenSpec.ofChange fnExactShowInstrSpec)) fnExactShowInstrCard

/-- THE TIED CARD OF 'laws.FnExactShowGraph'. -/
def fnExactShowGraphCard : Claim7 := { stood := { row := fnExactShowGraphRow, standIns := [], harness := (true, "4aacc4a3d961bfa46961ca6d3b1d06355560b6eb5d8c08ca93d178d8f5681293"), looks := false }, kinds := [], alts := [], laidByText := true, laidKinds := [.data, .data, .data], laidTests := true, laidLooks := .later }
def FnExactShowGraphCardSaid : Prop := Claim7.holds Tryd.pinned (.plain (OpenSpec.ofChange fnExactShowGraphSpec)) fnExactShowGraphCard

/-- THE SECOND FORM's CARD OF 'laws.FnExactShowInstr'. -/
def fnExactShowInstrUptoCard : Claim7 := { stood := { row := fnExactShowInstrUptoRow, standIns := [], harness := (true, "4aacc4a3d961bfa46961ca6d3b1d06355560b6eb5d8c08ca93d178d8f5681293"), looks := false }, kinds := [], alts := [], laidByText := true, laidKinds := [.data, .data, .data], laidTests := true, laidLooks := .later }
def FnExactShowInstrUptoCardSaid : Prop := Claim7.holds Tryd.pinned (.plain (OpenSpec.upto fnExactShowInstrSpec)) fnExactShowInstrUptoCard

/-- THE SECOND FORM's CARD OF 'laws.FnExactShowGraph'. -/
def fnExactShowGraphUptoCard : Claim7 := { stood := { row := fnExactShowGraphUptoRow, standIns := [], harness := (true, "4aacc4a3d961bfa46961ca6d3b1d06355560b6eb5d8c08ca93d178d8f5681293"), looks := false }, kinds := [], alts := [], laidByText := true, laidKinds := [.data, .data, .data], laidTests := true, laidLooks := .later }
def FnExactShowGraphUptoCardSaid : Prop := Claim7.holds Tryd.pinned (.plain (OpenSpec.upto fnExactShowGraphSpec)) fnExactShowGraphUptoCard
end Rows
end Go.Proofs.YtbbpmcignfhfmaaDoor
