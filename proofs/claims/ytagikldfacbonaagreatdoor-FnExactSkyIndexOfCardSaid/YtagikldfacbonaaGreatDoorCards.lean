/-
  DERIVED. GIVEN WITH THE SEED: THE CARDS: each row of YtagikldfacbonaaGreatDoorRows.lean that lists a variable, with what it lists TIED to the program's text (the seventh form; the later family's looks); each row that meets fmt, with fmt's text TOLD by the authors' own Lean function (tested against real Go, not proved from fmt's source: count such statements apart). THE CARD IS WHAT COUNTS. Prove the row's statement (the work); the ties are given (YtagikldfacbonaaGreatDoorTie.lean); close each card by the builder's one call (the guide's Derived/Test/ToyasCard.lean, 'card_holds'). Laid BY PROGRAM, IN A SANDBOX (cutbox-door.mjs). By AI agents, Wed Nov 11 2026. No macro, syntax, notation, axiom, sorry.
-/
import Derived.Test.YtagikldfacbonaaGreatDoorRows
import GoSem.ClaimSeven
namespace Go.Proofs.YtagikldfacbonaaGreatDoor
namespace Rows

/-- THE TIED CARD OF 'laws.FnExactSkyIndexOf'. -/
def fnExactSkyIndexOfCard : Claim7 := { stood := { row := fnExactSkyIndexOfRow, standIns := [], harness := (true, "f18d681464aef8e6ceb448ea8ce6ef3c68547480f3eef03c8db776ca1c2e3349"), looks := false }, kinds := [], alts := [], laidByText := true, laidKinds := [.data], laidTests := true, laidLooks := .later }
def FnExactSkyIndexOfCardSaid : Prop := Claim7.holds Tryz.pinned (.plain (OpenSpec.ofChange fnExactSkyIndexOfSpec)) fnExactSkyIndexOfCard

/-- THE SECOND FORM's CARD OF 'laws.FnExactSkyIndexOf'. -/
def fnExactSkyIndexOfUptoCard : Claim7 := { stood := { row := fnExactSkyIndexOfUptoRow, standIns := [], harness := (true, "f18d681464aef8e6ceb448ea8ce6ef3c68547480f3eef03c8db776ca1c2e3349"), looks := false }, kinds := [], alts := [], laidByText := true, laidKinds := [.data], laidTests := true, laidLooks := .later }
def FnExactSkyIndexOfUptoCardSaid : Prop := Claim7.holds Tryz.pinned (.plain (OpenSpec.upto fnExactSkyIndexOfSpec)) fnExactSkyIndexOfUptoCard
end Rows
end Go.Proofs.YtagikldfacbonaaGreatDoor
