/-
  DERIVED. GIVEN WITH THE SEED: THE CARDS: each row of YtjcggilkfofiaaaDoorRows.lean that lists a variable, with what it lists TIED to the program's text (the seventh form; the later family's looks); each row that meets fmt, with fmt's text TOLD by the authors' own Lean function (tested against real Go, not proved from fmt's source: count such statements apart). THE CARD IS WHAT COUNTS. Prove the row's statement (the work); the ties are given (YtjcggilkfofiaaaDoorTie.lean); close each card by the builder's one call (the guide's Derived/Test/ToyasCard.lean, 'card_holds'). Laid BY PROGRAM, IN A SANDBOX (cutbox-door.mjs). By AI agents, Wed Nov 11 2026. No macro, syntax, notation, axiom, sorry.
-/
import Derived.Test.YtjcggilkfofiaaaDoorRows
import GoSem.ClaimSeven
namespace Go.Proofs.YtjcggilkfofiaaaDoor
namespace Rows

/-- THE TIED CARD OF 'laws.FnExactShowExp'. -/
def fnExactShowExpCard : Claim7 := { stood := { row := fnExactShowExpRow, standIns := [], harness := (true, "0ae5979408bc76c1f18c5050599e23dfcd48a84db43384a90eb0c161fd1a8988"), looks := false }, kinds := [], alts := [], laidByText := true, laidKinds := [.data, .data, .data], laidTests := true, laidLooks := .later }
def FnExactShowExpCardSaid : Prop := Claim7.holds Tryd.pinned (.plain (OpenSpec.ofChange fnExactShowExpSpec)) fnExactShowExpCard

/-- THE SECOND FORM's CARD OF 'laws.FnExactShowExp'. -/
def fnExactShowExpUptoCard : Claim7 := { stood := { row := fnExactShowExpUptoRow, standIns := [], harness := (true, "0ae5979408bc76c1f18c5050599e23dfcd48a84db43384a90eb0c161fd1a8988"), looks := false }, kinds := [], alts := [], laidByText := true, laidKinds := [.data, .data, .data], laidTests := true, laidLooks := .later }
def FnExactShowExpUptoCardSaid : Prop := Claim7.holds Tryd.pinned (.plain (OpenSpec.upto fnExactShowExpSpec)) fnExactShowExpUptoCard
end Rows
end Go.Proofs.YtjcggilkfofiaaaDoor
