/-
  DERIVED. GIVEN WITH THE SEED: THE CARDS: each row of YthihpeofphdfmaaGreatDoorRows.lean that lists a variable, with what it lists TIED to the program's text (the seventh form; the later family's looks); each row that meets fmt, with fmt's text TOLD by the authors' own Lean function (tested against real Go, not proved from fmt's source: count such statements apart). THE CARD IS WHAT COUNTS. Prove the row's statement (the work); the ties are given (YthihpeofphdfmaaGreatDoorTie.lean); close each card by the builder's one call (the guide's Derived/Test/ToyasCard.lean, 'card_holds'). Laid BY PROGRAM, IN A SANDBOX (cutbox-door.mjs). By AI agents, Wed Nov 11 2026. No macro, syntax, notation, axiom, sorry.
-/
import Derived.Test.YthihpeofphdfmaaGreatDoorRows
import GoSem.ClaimSeven
namespace Go.Proofs.YthihpeofphdfmaaGreatDoor
namespace Rows

/-- THE TIED CARD OF 'laws.FnFareyPaths'. -/
def fnFareyPathsCard : Claim7 := { stood := { row := fnFareyPathsRow, standIns := [], harness := (true, "7afa7140e213a6aa48821750414c60eb9d9a03bef44088ae9a50c880c9882388"), looks := false }, kinds := [], alts := [], laidByText := true, laidKinds := [.data, .pinned], laidTests := true, laidLooks := .later }
def FnFareyPathsCardSaid : Prop := Claim7.holds Tryz.pinned (.plain (OpenSpec.ofChange fnFareyPathsSpec)) fnFareyPathsCard

/-- THE SECOND FORM's CARD OF 'laws.FnFareyPaths'. -/
def fnFareyPathsUptoCard : Claim7 := { stood := { row := fnFareyPathsUptoRow, standIns := [], harness := (true, "7afa7140e213a6aa48821750414c60eb9d9a03bef44088ae9a50c880c9882388"), looks := false }, kinds := [], alts := [], laidByText := true, laidKinds := [.data, .pinned], laidTests := true, laidLooks := .later }
def FnFareyPathsUptoCardSaid : Prop := Claim7.holds Tryz.pinned (.plain (OpenSpec.upto fnFareyPathsSpec)) fnFareyPathsUptoCard
end Rows
end Go.Proofs.YthihpeofphdfmaaGreatDoor
