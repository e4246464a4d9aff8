/-
  DERIVED. GIVEN WITH THE SEED: THE CARDS: each row of YtgpmpajihobhhaaDoorRows.lean that lists a variable, with what it lists TIED to the program's text (the seventh form; the later family's looks); each row that meets fmt, with fmt's text TOLD by the authors' own Lean function (tested against real Go, not proved from fmt's source: count such statements apart). THE CARD IS WHAT COUNTS. Prove the row's statement (the work); the ties are given (YtgpmpajihobhhaaDoorTie.lean); close each card by the builder's one call (the guide's Derived/Test/ToyasCard.lean, 'card_holds'). Laid BY PROGRAM, IN A SANDBOX (cutbox-door.mjs). By AI agents, Wed Nov 11 2026. No macro, syntax, notation, axiom, sorry.
-/
import Derived.Test.YtgpmpajihobhhaaDoorRows
import GoSem.ClaimSeven
namespace Go.Proofs.YtgpmpajihobhhaaDoor
namespace Rows

/-- THE TIED CARD OF 'laws.FnExactSkyValid'. -/
def fnExactSkyValidCard : Claim7 := { stood := { row := fnExactSkyValidRow, standIns := [], harness := (true, "deca57ba54e328ad3aa0fc794f96dab60eaed5d4ce17bbd3c262b3b6a46524b5"), looks := false }, kinds := [], alts := [], laidByText := true, laidKinds := [.data], laidTests := true, laidLooks := .later }
def FnExactSkyValidCardSaid : Prop := Claim7.holds Tryd.pinned (.plain (OpenSpec.ofChange fnExactSkyValidSpec)) fnExactSkyValidCard

/-- THE TIED CARD OF 'laws.FnExactSkyWhere'. -/
def fnExactSkyWhereCard : Claim7 := { stood := { row := fnExactSkyWhereRow, standIns := [], harness := (true, "deca57ba54e328ad3aa0fc794f96dab60eaed5d4ce17bbd3c262b3b6a46524b5"), looks := false }, kinds := [], alts := [], laidByText := true, laidKinds := [.data], laidTests := true, laidLooks := .later }
def FnExactSkyWhereCardSaid : Prop := Claim7.holds Tryd.pinned (.plain (OpenSpec.ofChange fnExactSkyWhereSpec)) fnExactSkyWhereCard

/-- THE TIED CARD OF 'laws.FnExactSkyTouch'. -/
def fnExactSkyTouchCard : Claim7 := { stood := { row := fnExactSkyTouchRow, standIns := [], harness := (true, "deca57ba54e328ad3aa0fc794f96dab60eaed5d4ce17bbd3c262b3b6a46524b5"), looks := false }, kinds := [], alts := [], laidByText := true, laidKinds := [.data], laidTests := true, laidLooks := .later }
def FnExactSkyTouchCardSaid : Prop := Claim7.holds Tryd.pinned (.plain (OpenSpec.ofChange fnExactSkyTouchSpec)) fnExactSkyTouchCard

/-- THE TIED CARD OF 'laws.FnExactSkyFar'. -/
def fnExactSkyFarCard : Claim7 := { stood := { row := fnExactSkyFarRow, standIns := [], harness := (true, "deca57ba54e328ad3aa0fc794f96dab60eaed5d4ce17bbd3c262b3b6a46524b5"), looks := false }, kinds := [], alts := [], laidByText := true, laidKinds := [.data], laidTests := true, laidLooks := .later }
def FnExactSkyFarCardSaid : Prop := Claim7.holds Tryd.pinned (.plain (OpenSpec.ofChange fnExactSkyFarSpec)) fnExactSkyFarCard

/-- THE TIED CARD OF 'laws.FnExactLapZones'. -/
def fnExactLapZonesCard : Claim7 := { stood := { row := fnExactLapZonesRow, standIns := [], harness := (true, "deca57ba54e328ad3aa0fc794f96dab60eaed5d4ce17bbd3c262b3b6a46524b5"), looks := false }, kinds := [], alts := [], laidByText := true, laidKinds := [.data], laidTests := true, laidLooks := .later }
def FnExactLapZonesCardSaid : Prop := Claim7.holds Tryd.pinned (.plain (OpenSpec.ofChange fnExactLapZonesSpec)) fnExactLapZonesCard

/-- THE TIED CARD OF 'laws.FnExactSkyPasses'. -/
def fnExactSkyPassesCard : Claim7 := { stood := { row := fnExactSkyPassesRow, standIns := [], harness := (true, "deca57ba54e328ad3aa0fc794f96dab60eaed5d4ce17bbd3c262b3b6a46524b5"), looks := false }, kinds := [], alts := [], laidByText := true, laidKinds := [.data], laidTests := true, laidLooks := .later }
def FnExactSkyPassesCardSaid : Prop := Claim7.holds Tryd.pinned (.plain (OpenSpec.ofChange fnExactSkyPassesSpec)) fnExactSkyPassesCard

/-- THE TIED CARD OF 'laws.FnExactSkyTrack'. -/
def fnExactSkyTrackCard : Claim7 := { stood := { row := fnExactSkyTrackRow, standIns := [], harness := (true, "deca57ba54e328ad3aa0fc794f96dab60eaed5d4ce17bbd3c262b3b6a46524b5"), looks := false }, kinds := [], alts := [], laidByText := true, laidKinds := [.data], laidTests := true, laidLooks := .later }
def FnExactSkyTrackCardSaid : Prop := Claim7.holds Tryd.pinned (.plain (OpenSpec.ofChange fnExactSkyTrackSpec)) fnExactSkyTrackCard

/-- THE TIED CARD OF 'laws.FnExactSkyWay'. -/
def fnExactSkyWayCard : Claim7 := { stood := { row := fnExactSkyWayRow, standIns := [], harness := (true, "deca57ba54e328ad3aa0fc794f96dab60eaed5d4ce17bbd3c262b3b6a46524b5"), looks := false }, kinds := [], alts := [], laidByText := true, laidKinds := [.data], laidTests := true, laidLooks := .later }
def FnExactSkyWayCardSaid : Prop := Claim7.holds Tryd.pinned (.plain (OpenSpec.ofChange fnExactSkyWaySpec)) fnExactSkyWayCard

/-- THE TIED CARD OF 'laws.FnExactLapBase'. -/
def fnExactLapBaseCard : Claim7 := { stood := { row := fnExactLapBaseRow, standIns := [], harness := (true, "deca57ba54e328ad3aa0fc794f96dab60eaed5d4ce17bbd3c262b3b6a46524b5"), looks := false }, kinds := [], alts := [], laidByText := true, laidKinds := [.data], laidTests := true, laidLooks := .later }
def FnExactLapBaseCardSaid : Prop := Claim7.holds Tryd.pinned (.plain (OpenSpec.ofChange fnExactLapBaseSpec)) fnExactLapBaseCard

/-- THE SECOND FORM's CARD OF 'laws.FnExactSkyValid'. -/
def fnExactSkyValidUptoCard : Claim7 := { stood := { row := fnExactSkyValidUptoRow, standIns := [], harness := (true, "deca57ba54e328ad3aa0fc794f96dab60eaed5d4ce17bbd3c262b3b6a46524b5"), looks := false }, kinds := [], alts := [], laidByText := true, laidKinds := [.data], laidTests := true, laidLooks := .later }
def FnExactSkyValidUptoCardSaid : Prop := Claim7.holds Tryd.pinned (.plain (OpenSpec.upto fnExactSkyValidSpec)) fnExactSkyValidUptoCard

/-- THE SECOND FORM's CARD OF 'laws.FnExactSkyWhere'. -/
def fnExactSkyWhereUptoCard : Claim7 := { stood := { row := fnExactSkyWhereUptoRow, standIns := [], harness := (true, "deca57ba54e328ad3aa0fc794f96dab60eaed5d4ce17bbd3c262b3b6a46524b5"), looks := false }, kinds := [], alts := [], laidByText := true, laidKinds := [.data], laidTests := true, laidLooks := .later }
def FnExactSkyWhereUptoCardSaid : Prop := Claim7.holds Tryd.pinned (.plain (OpenSpec.upto fnExactSkyWhereSpec)) fnExactSkyWhereUptoCard

/-- THE SECOND FORM's CARD OF 'laws.FnExactSkyTouch'. -/
def fnExactSkyTouchUptoCard : Claim7 := { stood := { row := fnExactSkyTouchUptoRow, standIns := [], harness := (true, "deca57ba54e328ad3aa0fc794f96dab60eaed5d4ce17bbd3c262b3b6a46524b5"), looks := false }, kinds := [], alts := [], laidByText := true, laidKinds := [.data], laidTests := true, laidLooks := .later }
def FnExactSkyTouchUptoCardSaid : Prop := Claim7.holds Tryd.pinned (.plain (OpenSpec.upto fnExactSkyTouchSpec)) fnExactSkyTouchUptoCard

/-- THE SECOND FORM's CARD OF 'laws.FnExactSkyFar'. -/
def fnExactSkyFarUptoCard : Claim7 := { stood := { row := fnExactSkyFarUptoRow, standIns := [], harness := (true, "deca57ba54e328ad3aa0fc794f96dab60eaed5d4ce17bbd3c262b3b6a46524b5"), looks := false }, kinds := [], alts := [], laidByText := true, laidKinds := [.data], laidTests := true, laidLooks := .later }
def FnExactSkyFarUptoCardSaid : Prop := Claim7.holds Tryd.pinned (.plain (OpenSpec.upto fnExactSkyFarSpec)) fnExactSkyFarUptoCard

/-- THE SECOND FORM's CARD OF 'laws.FnExactLapZones'. -/
def fnExactLapZonesUptoCard : Claim7 := { stood := { row := fnExactLapZonesUptoRow, standIns := [], harness := (true, "deca57ba54e328ad3aa0fc794f96dab60eaed5d4ce17bbd3c262b3b6a46524b5"), looks := false }, kinds := [], alts := [], laidByText := true, laidKinds := [.data], laidTests := true, laidLooks := .later }
def FnExactLapZonesUptoCardSaid : Prop := Claim7.holds Tryd.pinned (.plain (OpenSpec.upto fnExactLapZonesSpec)) fnExactLapZonesUptoCard

/-- THE SECOND FORM's CARD OF 'laws.FnExactSkyPasses'. -/
def fnExactSkyPassesUptoCard : Claim7 := { stood := { row := fnExactSkyPassesUptoRow, standIns := [], harness := (true, "deca57ba54e328ad3aa0fc794f96dab60eaed5d4ce17bbd3c262b3b6a46524b5"), looks := false }, kinds := [], alts := [], laidByText := true, laidKinds := [.data], laidTests := true, laidLooks := .later }
def FnExactSkyPassesUptoCardSaid : Prop := Claim7.holds Tryd.pinned (.plain (OpenSpec.upto fnExactSkyPassesSpec)) fnExactSkyPassesUptoCard

/-- THE SECOND FORM's CARD OF 'laws.FnExactSkyTrack'. -/
def fnExactSkyTrackUptoCard : Claim7 := { stood := { row := fnExactSkyTrackUptoRow, standIns := [], harness := (true, "deca57ba54e328ad3aa0fc794f96dab60eaed5d4ce17bbd3c262b3b6a46524b5"), looks := false }, kinds := [], alts := [], laidByText := true, laidKinds := [.data], laidTests := true, laidLooks := .later }
def FnExactSkyTrackUptoCardSaid : Prop := Claim7.holds Tryd.pinned (.plain (OpenSpec.upto fnExactSkyTrackSpec)) fnExactSkyTrackUptoCard

/-- THE SECOND FORM's CARD OF 'laws.FnExactSkyWay'. -/
def fnExactSkyWayUptoCard : Claim7 := { stood := { row := fnExactSkyWayUptoRow, standIns := [], harness := (true, "deca57ba54e328ad3aa0fc794f96dab60eaed5d4ce17bbd3c262b3b6a46524b5"), looks := false }, kinds := [], alts := [], laidByText := true, laidKinds := [.data], laidTests := true, laidLooks := .later }
def FnExactSkyWayUptoCardSaid : Prop := Claim7.holds Tryd.pinned (.plain (OpenSpec.upto fnExactSkyWaySpec)) fnExactSkyWayUptoCard

/-- THE SECOND FORM's CARD OF 'laws.FnExactLapBase'. -/
def fnExactLapBaseUptoCard : Claim7 := { stood := { row := fnExactLapBaseUptoRow, standIns := [], harness := (true, "deca57ba54e328ad3aa0fc794f96dab60eaed5d4ce17bbd3c262b3b6a46524b5"), looks := false }, kinds := [], alts := [], laidByText := true, laidKinds := [.data], laidTests := true, laidLooks := .later }
def FnExactLapBaseUptoCardSaid : Prop := Claim7.holds Tryd.pinned (.plain (OpenSpec.upto fnExactLapBaseSpec)) fnExactLapBaseUptoCard
end Rows
end Go.Proofs.YtgpmpajihobhhaaDoor
