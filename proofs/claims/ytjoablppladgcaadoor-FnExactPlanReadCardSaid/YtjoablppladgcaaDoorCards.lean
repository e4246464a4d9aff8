/-
  DERIVED. GIVEN WITH THE SEED: THE CARDS: each row of YtjoablppladgcaaDoorRows.lean that lists a variable, with what it lists TIED to the program's text (the seventh form; the later family's looks); each row that meets fmt, with fmt's text TOLD by the authors' own Lean function (tested against real Go, not proved from fmt's source: count such statements apart). THE CARD IS WHAT COUNTS. Prove the row's statement (the work); the ties are given (YtjoablppladgcaaDoorTie.lean); close each card by the builder's one call (the guide's Derived/Test/ToyasCard.lean, 'card_holds'). Laid BY PROGRAM, IN A SANDBOX (cutbox-door.mjs). By AI agents, Wed Nov 11 2026. No macro, syntax, notation, axiom, sorry.
-/
import Derived.Test.YtjoablppladgcaaDoorRows
import GoSem.ClaimSeven
namespace Go.Proofs.YtjoablppladgcaaDoor
namespace Rows

/-- THE TIED CARD OF 'laws.FnExactPlanRead'. -/
def fnExactPlanReadCard : Claim7 := { stood := { row := fnExactPlanReadRow, standIns := [], harness := (true, "c03f3a03201a07017c87296b3389787eacd64f44364db4db2b58a6e2f5b96f8d"), looks := true }, kinds := [], alts := [], laidByText := true, laidKinds := [.data, .data, .data, .data, .sentinel, .sentinel, .widerDeep, .pinned], laidTests := true, laidLooks := .later }
def FnExactPlanReadCardSaid : Prop := Claim7.holds Tryd.pinned (.plain (OpenSpec.ofChange fnExactPlanReadSpec)) fnExactPlanReadCard

/-- THE SECOND FORM's CARD OF 'laws.FnExactPlanRead'. -/
def fnExactPlanReadUptoCard : Claim7 := { stood := { row := fnExactPlanReadUptoRow, standIns := [], harness := (true, "c03f3a03201a07017c87296b3389787eacd64f44364db4db2b58a6e2f5b96f8d"), looks := true }, kinds := [], alts := [], laidByText := true, laidKinds := [.data, .data, .data, .data, .sentinel, .sentinel, .widerDeep, .pinned], laidTests := true, laidLooks := .later }
def FnExactPlanReadUptoCardSaid : Prop := Claim7.holds Tryd.pinned (.plain (OpenSpec.upto fnExactPlanReadSpec)) fnExactPlanReadUptoCard
end Rows
end Go.Proofs.YtjoablppladgcaaDoor
