/-
  DERIVED. GIVEN WITH THE SEED: THE CARDS: each row of YtagikldfacbonaaDoorRows.lean that lists a variable, with what it lists TIED to the program's text (the seventh form; the later family's looks); each row that meets fmt, with fmt's text TOLD by the authors' own Lean function (tested against real Go, not proved from fmt's source: count such statements apart). THE CARD IS WHAT COUNTS. Prove the row's statement (the work); the ties are given (YtagikldfacbonaaDoorTie.lean); close each card by the builder's one call (the guide's Derived/Test/ToyasCard.lean, 'card_holds'). Laid BY PROGRAM, IN A SANDBOX (cutbox-door.mjs). By AI agents, Wed Nov 11 2026. No macro, syntax, notation, axiom, sorry.
-/
import Derived.Test.YtagikldfacbonaaDoorRows
import GoSem.ClaimSeven
namespace Go.Proofs.YtagikldfacbonaaDoor
namespace Rows

/-- THE TIED CARD OF 'laws.FnExactSkyFar'. -/
def fnExactSkyFarCard : Claim7 := { stood := { row := fnExactSkyFarRow, standIns := [], harness := (true, "15b2d3381b34cf3921a4b9f09d21dde00dee69c4055244df7c0ce32da3c35de0"), looks := false }, kinds := [], alts := [], laidByText := true, laidKinds := [.data], laidTests := true, laidLooks := .later }
def FnExactSkyFarCardSaid : Prop := Claim7.holds Tryd.pinned (.plain (OpenSpec.ofChange fnExactSkyFarSpec)) fnExactSkyFarCard

/-- THE TIED CARD OF 'laws.FnExactSkyWay'. -/
def fnExactSkyWayCard : Claim7 := { stood := { row := fnExactSkyWayRow, standIns := [], harness := (true, "15b2d3381b34cf3921a4b9f09d21dde00dee69c4055244df7c0ce32da3c35de0"), looks := false }, kinds := [], alts := [], laidByText := true, laidKinds := [.data], laidTests := true, laidLooks := .later }
def FnExactSkyWayCardSaid : Prop := Claim7.holds Tryd.pinned (.plain (OpenSpec.ofChange fnExactSkyWaySpec)) fnExactSkyWayCard

/-- THE SECOND FORM's CARD OF 'laws.FnExactSkyFar'. -/
def fnExactSkyFarUptoCard : Claim7 := { stood := { row := fnExactSkyFarUptoRow, standIns := [], harness := (true, "15b2d3381b34cf3921a4b9f09d21dde00dee69c4055244df7c0ce32da3c35de0"), looks := false }, kinds := [], alts := [], laidByText := true, laidKinds := [.data], laidTests := true, laidLooks := .later }
def FnExactSkyFarUptoCardSaid : Prop := Claim7.holds Tryd.pinned (.plain (OpenSpec.upto fnExactSkyFarSpec)) fnExactSkyFarUptoCard

/-- THE SECOND FORM's CARD OF 'laws.FnExactSkyWay'. -/
def fnExactSkyWayUptoCard : Claim7 := { stood := { row := fnExactSkyWayUptoRow, standIns := [], harness := (true, "15b2d3381b34cf3921a4b9f09d21dde00dee69c4055244df7c0ce32da3c35de0"), looks := false }, kinds := [], alts := [], laidByText := true, laidKinds := [.data], laidTests := true, laidLooks := .later }
def FnExactSkyWayUptoCardSaid : Prop := Claim7.holds Tryd.pinned (.plain (OpenSpec.upto fnExactSkyWaySpec)) fnExactSkyWayUptoCard
end Rows
end Go.Proofs.YtagikldfacbonaaDoor
