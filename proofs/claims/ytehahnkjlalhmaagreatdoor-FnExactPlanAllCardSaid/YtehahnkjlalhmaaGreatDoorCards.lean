/-
  DERIVED. GIVEN WITH THE SEED: THE CARDS: each row of YtehahnkjlalhmaaGreatDoorRows.lean that lists a variable, with what it lists TIED to the program's text (the seventh form; the later family's looks); each row that meets fmt, with fmt's text TOLD by the authors' own Lean function (tested against real Go, not proved from fmt's source: count such statements apart). THE CARD IS WHAT COUNTS. Prove the row's statement (the work); the ties are given (YtehahnkjlalhmaaGreatDoorTie.lean); close each card by the builder's one call (the guide's Derived/Test/ToyasCard.lean, 'card_holds'). Laid BY PROGRAM, IN A SANDBOX (cutbox-door.mjs). By AI agents, Wed Nov 11 2026. No macro, syntax, notation, axiom, sorry.
-/
import Derived.Test.YtehahnkjlalhmaaGreatDoorRows
import GoSem.ClaimSeven
namespace Go.Proofs.YtehahnkjlalhmaaGreatDoor
namespace Rows

/-- THE TIED CARD OF 'laws.FnExactPlanFits'. -/
def fnExactPlanFitsCard : Claim7 := { stood := { row := fnExactPlanFitsRow, standIns := [], harness := (true, "0618956f03218340f0254d79b213447d6e1fb634543069a97a3c153b2cc0ab1b"), looks := true }, kinds := [], alts := [], laidByText := true, laidKinds := [.data, .data, .data, .data, .sentinel, .sentinel, .pinned], laidTests := true, laidLooks := .later }
def FnExactPlanFitsCardSaid : Prop := Claim7.holds Tryz.pinned (.plain (OpenSpec.ofChange fnExactPlanFitsSpec)) fnExactPlanFitsCard

/-- THE TIED CARD OF 'laws.FnExactPlanChangeOk'. -/
def fnExactPlanChangeOkCard : Claim7 := { stood := { row := fnExactPlanChangeOkRow, standIns := [], harness := (true, "0618956f03218340f0254d79b213447d6e1fb634543069a97a3c153b2cc0ab1b"), looks := true }, kinds := [], alts := [], laidByText := true, laidKinds := [.data, .data, .data, .data, .sentinel, .sentinel, .pinned], laidTests := true, laidLooks := .later }
def FnExactPlanChangeOkCardSaid : Prop := Claim7.holds Tryz.pinned (.plain (OpenSpec.ofChange fnExactPlanChangeOkSpec)) fnExactPlanChangeOkCard

/-- THE TIED CARD OF 'laws.FnExactPlanBookOk'. -/
def fnExactPlanBookOkCard : Claim7 := { stood := { row := fnExactPlanBookOkRow, standIns := [], harness := (true, "0618956f03218340f0254d79b213447d6e1fb634543069a97a3c153b2cc0ab1b"), looks := true }, kinds := [], alts := [], laidByText := true, laidKinds := [.data, .data, .data, .data, .sentinel, .sentinel, .pinned], laidTests := true, laidLooks := .later }
def FnExactPlanBookOkCardSaid : Prop := Claim7.holds Tryz.pinned (.plain (OpenSpec.ofChange fnExactPlanBookOkSpec)) fnExactPlanBookOkCard

/-- THE TIED CARD OF 'laws.FnExactPlanNews'. -/
def fnExactPlanNewsCard : Claim7 := { stood := { row := fnExactPlanNewsRow, standIns := [], harness := (true, "0618956f03218340f0254d79b213447d6e1fb634543069a97a3c153b2cc0ab1b"), looks := true }, kinds := [], alts := [], laidByText := true, laidKinds := [.data, .data, .data, .data, .sentinel, .sentinel, .pinned], laidTests := true, laidLooks := .later }
def FnExactPlanNewsCardSaid : Prop := Claim7.holds Tryz.pinned (.plain (OpenSpec.ofChange fnExactPlanNewsSpec)) fnExactPlanNewsCard

/-- THE TIED CARD OF 'laws.FnExactPlanStands'. -/
def fnExactPlanStandsCard : Claim7 := { stood := { row := fnExactPlanStandsRow, standIns := [], harness := (true, "0618956f03218340f0254d79b213447d6e1fb634543069a97a3c153b2cc0ab1b"), looks := true }, kinds := [], alts := [], laidByText := true, laidKinds := [.data, .data, .data, .data, .sentinel, .sentinel, .pinned], laidTests := true, laidLooks := .later }
def FnExactPlanStandsCardSaid : Prop := Claim7.holds Tryz.pinned (.plain (OpenSpec.ofChange fnExactPlanStandsSpec)) fnExactPlanStandsCard

/-- THE TIED CARD OF 'laws.FnExactPlanAll'. -/
def fnExactPlanAllCard : Claim7 := { stood := { row := fnExactPlanAllRow, standIns := [], harness := (true, "0618956f03218340f0254d79b213447d6e1fb634543069a97a3c153b2cc0ab1b"), looks := true }, kinds := [], alts := [], laidByText := true, laidKinds := [.data, .data, .data, .data, .sentinel, .sentinel, .pinned], laidTests := true, laidLooks := .later }
def FnExactPlanAllCardSaid : Prop := Claim7.holds Tryz.pinned (.plain (OpenSpec.ofChange fnExactPlanAllSpec)) fnExactPlanAllCard

/-- THE SECOND FORM's CARD OF 'laws.FnExactPlanFits'. -/
def fnExactPlanFitsUptoCard : Claim7 := { stood := { row := fnExactPlanFitsUptoRow, standIns := [], harness := (true, "0618956f03218340f0254d79b213447d6e1fb634543069a97a3c153b2cc0ab1b"), looks := true }, kinds := [], alts := [], laidByText := true, laidKinds := [.data, .data, .data, .data, .sentinel, .sentinel, .pinned], laidTests := true, laidLooks := .later }
def FnExactPlanFitsUptoCardSaid : Prop := Claim7.holds Tryz.pinned (.plain (OpenSpec.upto fnExactPlanFitsSpec)) fnExactPlanFitsUptoCard

/-- THE SECOND FORM's CARD OF 'laws.FnExactPlanChangeOk'. -/
def fnExactPlanChangeOkUptoCard : Claim7 := { stood := { row := fnExactPlanChangeOkUptoRow, standIns := [], harness := (true, "0618956f03218340f0254d79b213447d6e1fb634543069a97a3c153b2cc0ab1b"), looks := true }, kinds := [], alts := [], laidByText := true, laidKinds := [.data, .data, .data, .data, .sentinel, .sentinel, .pinned], laidTests := true, laidLooks := .later }
def FnExactPlanChangeOkUptoCardSaid : Prop := Claim7.holds Tryz.pinned (.plain (OpenSpec.upto fnExactPlanChangeOkSpec)) fnExactPlanChangeOkUptoCard

/-- THE SECOND FORM's CARD OF 'laws.FnExactPlanBookOk'. -/
def fnExactPlanBookOkUptoCard : Claim7 := { stood := { row := fnExactPlanBookOkUptoRow, standIns := [], harness := (true, "0618956f03218340f0254d79b213447d6e1fb634543069a97a3c153b2cc0ab1b"), looks := true }, kinds := [], alts := [], laidByText := true, laidKinds := [.data, .data, .data, .data, .sentinel, .sentinel, .pinned], laidTests := true, laidLooks := .later }
def FnExactPlanBookOkUptoCardSaid : Prop := Claim7.holds Tryz.pinned (.plain (OpenSpec.upto fnExactPlanBookOkSpec)) fnExactPlanBookOkUptoCard

/-- THE SECOND FORM's CARD OF 'laws.FnExactPlanNews'. -/
def fnExactPlanNewsUptoCard : Claim7 := { stood := { row := fnExactPlanNewsUptoRow, standIns := [], harness := (true, "0618956f03218340f0254d79b213447d6e1fb634543069a97a3c153b2cc0ab1b"), looks := true }, kinds := [], alts := [], laidByText := true, laidKinds := [.data, .data, .data, .data, .sentinel, .sentinel, .pinned], laidTests := true, laidLooks := .later }
def FnExactPlanNewsUptoCardSaid : Prop := Claim7.holds Tryz.pinned (.plain (OpenSpec.upto fnExactPlanNewsSpec)) fnExactPlanNewsUptoCard

/-- THE SECOND FORM's CARD OF 'laws.FnExactPlanStands'. -/
def fnExactPlanStandsUptoCard : Claim7 := { stood := { row := fnExactPlanStandsUptoRow, standIns := [], harness := (true, "0618956f03218340f0254d79b213447d6e1fb634543069a97a3c153b2cc0ab1b"), looks := true }, kinds := [], alts := [], laidByText := true, laidKinds := [.data, .data, .data, .data, .sentinel, .sentinel, .pinned], laidTests := true, laidLooks := .later }
def FnExactPlanStandsUptoCardSaid : Prop := Claim7.holds Tryz.pinned (.plain (OpenSpec.upto fnExactPlanStandsSpec)) fnExactPlanStandsUptoCard

/-- THE SECOND FORM's CARD OF 'laws.FnExactPlanAll'. -/
def fnExactPlanAllUptoCard : Claim7 := { stood := { row := fnExactPlanAllUptoRow, standIns := [], harness := (true, "0618956f03218340f0254d79b213447d6e1fb634543069a97a3c153b2cc0ab1b"), looks := true }, kinds := [], alts := [], laidByText := true, laidKinds := [.data, .data, .data, .data, .sentinel, .sentinel, .pinned], laidTests := true, laidLooks := .later }
def FnExactPlanAllUptoCardSaid : Prop := Claim7.holds Tryz.pinned (.plain (OpenSpec.upto fnExactPlanAllSpec)) fnExactPlanAllUptoCard
end Rows
end Go.Proofs.YtehahnkjlalhmaaGreatDoor
