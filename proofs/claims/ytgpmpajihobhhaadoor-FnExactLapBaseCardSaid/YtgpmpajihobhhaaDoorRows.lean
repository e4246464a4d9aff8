/-
  NARROWER THAN 'FOR EVERY INPUT', by the rows' own cells (each row's printed sentence says how): FnExactSkyValid: laid · FnExactSkyWhere: laid · FnExactSkyTouch: laid · FnExactSkyFar: laid · FnExactLapZones: laid · FnExactSkyPasses: laid · FnExactSkyTrack: laid · FnExactSkyWay: laid · FnExactLapBase: laid.
  DERIVED. THE GIVEN ROWS OF THIS SEAT. 9 by the template 'for every input the law returns true; each argument reads behind the call as it read before'; 0 by the template 'total and deterministic' (their statements: YtgpmpajihobhhaaDoorTotals.lean).
  GIVEN WITH THE SEED: the statements are not yours to turn. If you find one false, say at which input.
  Laid BY PROGRAM, IN A SANDBOX (cutbox-rows.mjs): the forced cells as the released guide's own fill.sh prints them over the translation c5ff2806f93efccf… (all of the seat's roots in one cut). By AI agents, Wed Nov 11 2026. No macro, syntax, notation, axiom, sorry.
-/
import Derived.Test.YtgpmpajihobhhaaDoorChecked
import GoSem.Claim
import GoSem.ClaimJoined
import GoSem.ClaimMapViews
import Derived.JoinedTies
import Derived.KernelRfl
namespace Go.Proofs.YtgpmpajihobhhaaDoor
/- THE CELL 'sum', in the pinned program and in every row, IS THE sha256 OF THE DUMP (.gsa) THAT YtgpmpajihobhhaaDoorProg.lean LOADS. Nothing in Lean hashes anything: it is a label: what it is worth is what the hold of that sum in a sandbox is worth. -/
noncomputable def Tryd.pinned : Pinned := { name := "ytgpmpajihobhhaadoor", sum := "c5ff2806f93efccfa2b03bda641fda3f23136ff9bb6f3709f8676fc6781efd80", checked := Tryd.checked }
namespace Rows
def none {H : Type} : Left H := { results := [], args := [] }

/- WHAT THE LISTED PACKAGE-LEVEL VARIABLES READ AS WHEN THE CALL BEGINS. Each datum BY PROGRAM (the guide's laid-datum.mjs) off the statement by which the dump's own 'gosem.cut.vars' lays the variable. In a bare row this is a premise. The card (YtgpmpajihobhhaaDoorCards.lean) ties it to the program's text. -/
def laid_loop_example_lapwing_impl_turnBy {H : Type} : DataW H := .agg [.agg [.lit (.int .i64 0), .lit (.int .i64 0)], .agg [.lit (.int .i64 0), .lit (.int .i64 1)], .agg [.lit (.int .i64 1), .lit (.int .i64 1)], .agg [.lit (.int .i64 1), .lit (.int .i64 0)], .agg [.lit (.int .i64 1), .lit (.int .i64 (-1))], .agg [.lit (.int .i64 0), .lit (.int .i64 (-1))], .agg [.lit (.int .i64 (-1)), .lit (.int .i64 (-1))], .agg [.lit (.int .i64 (-1)), .lit (.int .i64 0)], .agg [.lit (.int .i64 (-1)), .lit (.int .i64 1)]]

/-- 'laws.FnExactSkyValid': WHATEVER THE INPUT: true; the input reads as it did. -/
def fnExactSkyValidSpec : ChangeSpec := { name := "fnExactSkyValid", vars := ["loop.example/lapwing/impl.turnBy"], fn := fun _ => fun
  | [d, g1] => { results := [.lit (.bool true)], args := [d], vars := [g1] }
  | _ => none }
def fnExactSkyValidRow : OpenClaim := { program := "ytgpmpajihobhhaadoor", sum := "c5ff2806f93efccfa2b03bda641fda3f23136ff9bb6f3709f8676fc6781efd80", func := "loop.example/lapwing/laws.FnExactSkyValid", spec := "fnExactSkyValid", named := ["loop.example/lapwing/impl.turnBy"], plainKeys := false, apart := false, laid := [("loop.example/lapwing/impl.turnBy", laid_loop_example_lapwing_impl_turnBy)] }
def FnExactSkyValidSaid : Prop := fnExactSkyValidRow.holds Tryd.pinned (OpenSpec.ofChange fnExactSkyValidSpec)

/-- ITS FALSE NEIGHBOUR: 'it returns false'. Refute it at one input. -/
def fnExactSkyValidWrong : ChangeSpec := { name := "fnExactSkyValid", vars := ["loop.example/lapwing/impl.turnBy"], fn := fun _ => fun
  | [d, g1] => { results := [.lit (.bool false)], args := [d], vars := [g1] }
  | _ => none }
def FnExactSkyValidWrongFalsely : Prop := fnExactSkyValidRow.holds Tryd.pinned (OpenSpec.ofChange fnExactSkyValidWrong)

/-- 'laws.FnExactSkyWhere': WHATEVER THE INPUT: true; the input reads as it did. -/
def fnExactSkyWhereSpec : ChangeSpec := { name := "fnExactSkyWhere", vars := ["loop.example/lapwing/impl.turnBy"], fn := fun _ => fun
  | [d1, d2, g1] => { results := [.lit (.bool true)], args := [d1, d2], vars := [g1] }
  | _ => none }
def fnExactSkyWhereRow : OpenClaim := { program := "ytgpmpajihobhhaadoor", sum := "c5ff2806f93efccfa2b03bda641fda3f23136ff9bb6f3709f8676fc6781efd80", func := "loop.example/lapwing/laws.FnExactSkyWhere", spec := "fnExactSkyWhere", named := ["loop.example/lapwing/impl.turnBy"], plainKeys := false, apart := false, laid := [("loop.example/lapwing/impl.turnBy", laid_loop_example_lapwing_impl_turnBy)] }
def FnExactSkyWhereSaid : Prop := fnExactSkyWhereRow.holds Tryd.pinned (OpenSpec.ofChange fnExactSkyWhereSpec)

/-- ITS FALSE NEIGHBOUR: 'it returns false'. Refute it at one input. -/
def fnExactSkyWhereWrong : ChangeSpec := { name := "fnExactSkyWhere", vars := ["loop.example/lapwing/impl.turnBy"], fn := fun _ => fun
  | [d1, d2, g1] => { results := [.lit (.bool false)], args := [d1, d2], vars := [g1] }
  | _ => none }
def FnExactSkyWhereWrongFalsely : Prop := fnExactSkyWhereRow.holds Tryd.pinned (OpenSpec.ofChange fnExactSkyWhereWrong)

/-- 'laws.FnExactSkyTouch': WHATEVER THE INPUT: true; the input reads as it did. -/
def fnExactSkyTouchSpec : ChangeSpec := { name := "fnExactSkyTouch", vars := ["loop.example/lapwing/impl.turnBy"], fn := fun _ => fun
  | [d1, d2, d3, g1] => { results := [.lit (.bool true)], args := [d1, d2, d3], vars := [g1] }
  | _ => none }
def fnExactSkyTouchRow : OpenClaim := { program := "ytgpmpajihobhhaadoor", sum := "c5ff2806f93efccfa2b03bda641fda3f23136ff9bb6f3709f8676fc6781efd80", func := "loop.example/lapwing/laws.FnExactSkyTouch", spec := "fnExactSkyTouch", named := ["loop.example/lapwing/impl.turnBy"], plainKeys := false, apart := false, laid := [("loop.example/lapwing/impl.turnBy", laid_loop_example_lapwing_impl_turnBy)] }
def FnExactSkyTouchSaid : Prop := fnExactSkyTouchRow.holds Tryd.pinned (OpenSpec.ofChange fnExactSkyTouchSpec)

/-- ITS FALSE NEIGHBOUR: 'it returns false'. Refute it at one input. -/
def fnExactSkyTouchWrong : ChangeSpec := { name := "fnExactSkyTouch", vars := ["loop.example/lapwing/impl.turnBy"], fn := fun _ => fun
  | [d1, d2, d3, g1] => { results := [.lit (.bool false)], args := [d1, d2, d3], vars := [g1] }
  | _ => none }
def FnExactSkyTouchWrongFalsely : Prop := fnExactSkyTouchRow.holds Tryd.pinned (OpenSpec.ofChange fnExactSkyTouchWrong)

/-- 'laws.FnExactSkyFar': WHATEVER THE INPUT: true; the input reads as it did. -/
def fnExactSkyFarSpec : ChangeSpec := { name := "fnExactSkyFar", vars := ["loop.example/lapwing/impl.turnBy"], fn := fun _ => fun
  | [d1, d2, d3, g1] => { results := [.lit (.bool true)], args := [d1, d2, d3], vars := [g1] }
  | _ => none }
def fnExactSkyFarRow : OpenClaim := { program := "ytgpmpajihobhhaadoor", sum := "c5ff2806f93efccfa2b03bda641fda3f23136ff9bb6f3709f8676fc6781efd80", func := "loop.example/lapwing/laws.FnExactSkyFar", spec := "fnExactSkyFar", unfollowed := true, recurses := true, named := ["loop.example/lapwing/impl.turnBy"], plainKeys := false, apart := false, laid := [("loop.example/lapwing/impl.turnBy", laid_loop_example_lapwing_impl_turnBy)] }
def FnExactSkyFarSaid : Prop := fnExactSkyFarRow.holds Tryd.pinned (OpenSpec.ofChange fnExactSkyFarSpec)

/-- ITS FALSE NEIGHBOUR: 'it returns false'. Refute it at one input. -/
def fnExactSkyFarWrong : ChangeSpec := { name := "fnExactSkyFar", vars := ["loop.example/lapwing/impl.turnBy"], fn := fun _ => fun
  | [d1, d2, d3, g1] => { results := [.lit (.bool false)], args := [d1, d2, d3], vars := [g1] }
  | _ => none }
def FnExactSkyFarWrongFalsely : Prop := fnExactSkyFarRow.holds Tryd.pinned (OpenSpec.ofChange fnExactSkyFarWrong)

/-- 'laws.FnExactLapZones': WHATEVER THE INPUT: true; the input reads as it did. -/
def fnExactLapZonesSpec : ChangeSpec := { name := "fnExactLapZones", vars := ["loop.example/lapwing/impl.turnBy"], fn := fun _ => fun
  | [d, g1] => { results := [.lit (.bool true)], args := [d], vars := [g1] }
  | _ => none }
def fnExactLapZonesRow : OpenClaim := { program := "ytgpmpajihobhhaadoor", sum := "c5ff2806f93efccfa2b03bda641fda3f23136ff9bb6f3709f8676fc6781efd80", func := "loop.example/lapwing/laws.FnExactLapZones", spec := "fnExactLapZones", named := ["loop.example/lapwing/impl.turnBy"], plainKeys := false, apart := false, laid := [("loop.example/lapwing/impl.turnBy", laid_loop_example_lapwing_impl_turnBy)] }
def FnExactLapZonesSaid : Prop := fnExactLapZonesRow.holds Tryd.pinned (OpenSpec.ofChange fnExactLapZonesSpec)

/-- ITS FALSE NEIGHBOUR: 'it returns false'. Refute it at one input. -/
def fnExactLapZonesWrong : ChangeSpec := { name := "fnExactLapZones", vars := ["loop.example/lapwing/impl.turnBy"], fn := fun _ => fun
  | [d, g1] => { results := [.lit (.bool false)], args := [d], vars := [g1] }
  | _ => none }
def FnExactLapZonesWrongFalsely : Prop := fnExactLapZonesRow.holds Tryd.pinned (OpenSpec.ofChange fnExactLapZonesWrong)

/-- 'laws.FnExactSkyPasses': WHATEVER THE INPUT: true; the input reads as it did. -/
def fnExactSkyPassesSpec : ChangeSpec := { name := "fnExactSkyPasses", vars := ["loop.example/lapwing/impl.turnBy"], fn := fun _ => fun
  | [d1, d2, g1] => { results := [.lit (.bool true)], args := [d1, d2], vars := [g1] }
  | _ => none }
def fnExactSkyPassesRow : OpenClaim := { program := "ytgpmpajihobhhaadoor", sum := "c5ff2806f93efccfa2b03bda641fda3f23136ff9bb6f3709f8676fc6781efd80", func := "loop.example/lapwing/laws.FnExactSkyPasses", spec := "fnExactSkyPasses", named := ["loop.example/lapwing/impl.turnBy"], plainKeys := false, apart := false, laid := [("loop.example/lapwing/impl.turnBy", laid_loop_example_lapwing_impl_turnBy)] }
def FnExactSkyPassesSaid : Prop := fnExactSkyPassesRow.holds Tryd.pinned (OpenSpec.ofChange fnExactSkyPassesSpec)

/-- ITS FALSE NEIGHBOUR: 'it returns false'. Refute it at one input. -/
def fnExactSkyPassesWrong : ChangeSpec := { name := "fnExactSkyPasses", vars := ["loop.example/lapwing/impl.turnBy"], fn := fun _ => fun
  | [d1, d2, g1] => { results := [.lit (.bool false)], args := [d1, d2], vars := [g1] }
  | _ => none }
def FnExactSkyPassesWrongFalsely : Prop := fnExactSkyPassesRow.holds Tryd.pinned (OpenSpec.ofChange fnExactSkyPassesWrong)

/-- 'laws.FnExactSkyTrack': WHATEVER THE INPUT: true; the input reads as it did. -/
def fnExactSkyTrackSpec : ChangeSpec := { name := "fnExactSkyTrack", vars := ["loop.example/lapwing/impl.turnBy"], fn := fun _ => fun
  | [d1, d2, g1] => { results := [.lit (.bool true)], args := [d1, d2], vars := [g1] }
  | _ => none }
def fnExactSkyTrackRow : OpenClaim := { program := "ytgpmpajihobhhaadoor", sum := "c5ff2806f93efccfa2b03bda641fda3f23136ff9bb6f3709f8676fc6781efd80", func := "loop.example/lapwing/laws.FnExactSkyTrack", spec := "fnExactSkyTrack", unfollowed := true, recurses := true, named := ["loop.example/lapwing/impl.turnBy"], plainKeys := false, apart := false, laid := [("loop.example/lapwing/impl.turnBy", laid_loop_example_lapwing_impl_turnBy)] }
def FnExactSkyTrackSaid : Prop := fnExactSkyTrackRow.holds Tryd.pinned (OpenSpec.ofChange fnExactSkyTrackSpec)

/-- ITS FALSE NEIGHBOUR: 'it returns false'. Refute it at one input. -/
def fnExactSkyTrackWrong : ChangeSpec := { name := "fnExactSkyTrack", vars := ["loop.example/lapwing/impl.turnBy"], fn := fun _ => fun
  | [d1, d2, g1] => { results := [.lit (.bool false)], args := [d1, d2], vars := [g1] }
  | _ => none }
def FnExactSkyTrackWrongFalsely : Prop := fnExactSkyTrackRow.holds Tryd.pinned (OpenSpec.ofChange fnExactSkyTrackWrong)

/-- 'laws.FnExactSkyWay': WHATEVER THE INPUT: true; the input reads as it did. -/
def fnExactSkyWaySpec : ChangeSpec := { name := "fnExactSkyWay", vars := ["loop.example/lapwing/impl.turnBy"], fn := fun _ => fun
  | [d1, d2, d3, g1] => { results := [.lit (.bool true)], args := [d1, d2, d3], vars := [g1] }
  | _ => none }
def fnExactSkyWayRow : OpenClaim := { program := "ytgpmpajihobhhaadoor", sum := "c5ff2806f93efccfa2b03bda641fda3f23136ff9bb6f3709f8676fc6781efd80", func := "loop.example/lapwing/laws.FnExactSkyWay", spec := "fnExactSkyWay", unfollowed := true, recurses := true, named := ["loop.example/lapwing/impl.turnBy"], plainKeys := false, apart := false, laid := [("loop.example/lapwing/impl.turnBy", laid_loop_example_lapwing_impl_turnBy)] }
def FnExactSkyWaySaid : Prop := fnExactSkyWayRow.holds Tryd.pinned (OpenSpec.ofChange fnExactSkyWaySpec)

/-- ITS FALSE NEIGHBOUR: 'it returns false'. Refute it at one input. -/
def fnExactSkyWayWrong : ChangeSpec := { name := "fnExactSkyWay", vars := ["loop.example/lapwing/impl.turnBy"], fn := fun _ => fun
  | [d1, d2, d3, g1] => { results := [.lit (.bool false)], args := [d1, d2, d3], vars := [g1] }
  | _ => none }
def FnExactSkyWayWrongFalsely : Prop := fnExactSkyWayRow.holds Tryd.pinned (OpenSpec.ofChange fnExactSkyWayWrong)

/-- 'laws.FnExactLapBase': WHATEVER THE INPUT: true; the input reads as it did. -/
def fnExactLapBaseSpec : ChangeSpec := { name := "fnExactLapBase", vars := ["loop.example/lapwing/impl.turnBy"], fn := fun _ => fun
  | [d1, d2, g1] => { results := [.lit (.bool true)], args := [d1, d2], vars := [g1] }
  | _ => none }
def fnExactLapBaseRow : OpenClaim := { program := "ytgpmpajihobhhaadoor", sum := "c5ff2806f93efccfa2b03bda641fda3f23136ff9bb6f3709f8676fc6781efd80", func := "loop.example/lapwing/laws.FnExactLapBase", spec := "fnExactLapBase", named := ["loop.example/lapwing/impl.turnBy"], plainKeys := false, apart := false, laid := [("loop.example/lapwing/impl.turnBy", laid_loop_example_lapwing_impl_turnBy)] }
def FnExactLapBaseSaid : Prop := fnExactLapBaseRow.holds Tryd.pinned (OpenSpec.ofChange fnExactLapBaseSpec)

/-- ITS FALSE NEIGHBOUR: 'it returns false'. Refute it at one input. -/
def fnExactLapBaseWrong : ChangeSpec := { name := "fnExactLapBase", vars := ["loop.example/lapwing/impl.turnBy"], fn := fun _ => fun
  | [d1, d2, g1] => { results := [.lit (.bool false)], args := [d1, d2], vars := [g1] }
  | _ => none }
def FnExactLapBaseWrongFalsely : Prop := fnExactLapBaseRow.holds Tryd.pinned (OpenSpec.ofChange fnExactLapBaseWrong)

/- THE SECOND FORM. 'bulk': how many values and letters a reading holds, each counted each time it is reached (what is shared counts as often as it is met; a slice's spare places count too). A statement '..UptoSaid' is the law's where the arguments, and the package variables that the reading takes, are together of bulk at most 1048576: NARROWER than '..Said'. Prove '..Said' where nothing that the law and all that it calls make is longer than what came in: it says more and counts as full. Else prove '..UptoSaid'. A law counts once. -/
mutual
def uptoBulk {H : Type} : DataW H → Nat
  | .lit (.string bytes) => bytes.length + 1
  | .lit _ => 1
  | .nil => 1
  | .ptr d => uptoBulk d + 1
  | .slice elems spare => uptoBulkAll elems + uptoBulkAll spare + 1
  | .agg parts => uptoBulkAll parts + 1
  | .iface _ d => uptoBulk d + 1
  | .map entries => uptoBulkEntries entries + 1
  | .held _ => 1
def uptoBulkAll {H : Type} : List (DataW H) → Nat
  | [] => 0
  | d :: r => uptoBulk d + uptoBulkAll r
def uptoBulkEntries {H : Type} : List (Lit × DataW H) → Nat
  | [] => 0
  | x :: r => uptoBulkEntry x + uptoBulkEntries r
def uptoBulkEntry {H : Type} : Lit × DataW H → Nat
  | (.string bytes, d) => bytes.length + uptoBulk d + 1
  | (_, d) => uptoBulk d + 1
 end
def uptoSmall : (H : Type) → List (DataW H) → Bool := fun _ ds => decide (uptoBulkAll ds ≤ 1048576)
def OpenSpec.upto (s : _root_.Go.ChangeSpec) : _root_.Go.OpenSpec := { _root_.Go.OpenSpec.ofChange s with cond := some uptoSmall }

/-- 'laws.FnExactSkyValid', WHERE WHAT IT READS IS OF BULK AT MOST 1048576: true; the input reads as it did. -/
def fnExactSkyValidUptoRow : OpenClaim := { program := "ytgpmpajihobhhaadoor", sum := "c5ff2806f93efccfa2b03bda641fda3f23136ff9bb6f3709f8676fc6781efd80", func := "loop.example/lapwing/laws.FnExactSkyValid", spec := "fnExactSkyValid", named := ["loop.example/lapwing/impl.turnBy"], plainKeys := false, apart := false, laid := [("loop.example/lapwing/impl.turnBy", laid_loop_example_lapwing_impl_turnBy)], narrowed := true }
def FnExactSkyValidUptoSaid : Prop := fnExactSkyValidUptoRow.holds Tryd.pinned (OpenSpec.upto fnExactSkyValidSpec)

/-- 'laws.FnExactSkyWhere', WHERE WHAT IT READS IS OF BULK AT MOST 1048576: true; the input reads as it did. -/
def fnExactSkyWhereUptoRow : OpenClaim := { program := "ytgpmpajihobhhaadoor", sum := "c5ff2806f93efccfa2b03bda641fda3f23136ff9bb6f3709f8676fc6781efd80", func := "loop.example/lapwing/laws.FnExactSkyWhere", spec := "fnExactSkyWhere", named := ["loop.example/lapwing/impl.turnBy"], plainKeys := false, apart := false, laid := [("loop.example/lapwing/impl.turnBy", laid_loop_example_lapwing_impl_turnBy)], narrowed := true }
def FnExactSkyWhereUptoSaid : Prop := fnExactSkyWhereUptoRow.holds Tryd.pinned (OpenSpec.upto fnExactSkyWhereSpec)

/-- 'laws.FnExactSkyTouch', WHERE WHAT IT READS IS OF BULK AT MOST 1048576: true; the input reads as it did. -/
def fnExactSkyTouchUptoRow : OpenClaim := { program := "ytgpmpajihobhhaadoor", sum := "c5ff2806f93efccfa2b03bda641fda3f23136ff9bb6f3709f8676fc6781efd80", func := "loop.example/lapwing/laws.FnExactSkyTouch", spec := "fnExactSkyTouch", named := ["loop.example/lapwing/impl.turnBy"], plainKeys := false, apart := false, laid := [("loop.example/lapwing/impl.turnBy", laid_loop_example_lapwing_impl_turnBy)], narrowed := true }
def FnExactSkyTouchUptoSaid : Prop := fnExactSkyTouchUptoRow.holds Tryd.pinned (OpenSpec.upto fnExactSkyTouchSpec)

/-- 'laws.FnExactSkyFar', WHERE WHAT IT READS IS OF BULK AT MOST 1048576: true; the input reads as it did. -/
def fnExactSkyFarUptoRow : OpenClaim := { program := "ytgpmpajihobhhaadoor", sum := "c5ff2806f93efccfa2b03bda641fda3f23136ff9bb6f3709f8676fc6781efd80", func := "loop.example/lapwing/laws.FnExactSkyFar", spec := "fnExactSkyFar", unfollowed := true, recurses := true, named := ["loop.example/lapwing/impl.turnBy"], plainKeys := false, apart := false, laid := [("loop.example/lapwing/impl.turnBy", laid_loop_example_lapwing_impl_turnBy)], narrowed := true }
def FnExactSkyFarUptoSaid : Prop := fnExactSkyFarUptoRow.holds Tryd.pinned (OpenSpec.upto fnExactSkyFarSpec)

/-- 'laws.FnExactLapZones', WHERE WHAT IT READS IS OF BULK AT MOST 1048576: true; the input reads as it did. -/
def fnExactLapZonesUptoRow : OpenClaim := { program := "ytgpmpajihobhhaadoor", sum := "c5ff2806f93efccfa2b03bda641fda3f23136ff9bb6f3709f8676fc6781efd80", func := "loop.example/lapwing/laws.FnExactLapZones", spec := "fnExactLapZones", named := ["loop.example/lapwing/impl.turnBy"], plainKeys := false, apart := false, laid := [("loop.example/lapwing/impl.turnBy", laid_loop_example_lapwing_impl_turnBy)], narrowed := true }
def FnExactLapZonesUptoSaid : Prop := fnExactLapZonesUptoRow.holds Tryd.pinned (OpenSpec.upto fnExactLapZonesSpec)

/-- 'laws.FnExactSkyPasses', WHERE WHAT IT READS IS OF BULK AT MOST 1048576: true; the input reads as it did. -/
def fnExactSkyPassesUptoRow : OpenClaim := { program := "ytgpmpajihobhhaadoor", sum := "c5ff2806f93efccfa2b03bda641fda3f23136ff9bb6f3709f8676fc6781efd80", func := "loop.example/lapwing/laws.FnExactSkyPasses", spec := "fnExactSkyPasses", named := ["loop.example/lapwing/impl.turnBy"], plainKeys := false, apart := false, laid := [("loop.example/lapwing/impl.turnBy", laid_loop_example_lapwing_impl_turnBy)], narrowed := true }
def FnExactSkyPassesUptoSaid : Prop := fnExactSkyPassesUptoRow.holds Tryd.pinned (OpenSpec.upto fnExactSkyPassesSpec)

/-- 'laws.FnExactSkyTrack', WHERE WHAT IT READS IS OF BULK AT MOST 1048576: true; the input reads as it did. -/
def fnExactSkyTrackUptoRow : OpenClaim := { program := "ytgpmpajihobhhaadoor", sum := "c5ff2806f93efccfa2b03bda641fda3f23136ff9bb6f3709f8676fc6781efd80", func := "loop.example/lapwing/laws.FnExactSkyTrack", spec := "fnExactSkyTrack", unfollowed := true, recurses := true, named := ["loop.example/lapwing/impl.turnBy"], plainKeys := false, apart := false, laid := [("loop.example/lapwing/impl.turnBy", laid_loop_example_lapwing_impl_turnBy)], narrowed := true }
def FnExactSkyTrackUptoSaid : Prop := fnExactSkyTrackUptoRow.holds Tryd.pinned (OpenSpec.upto fnExactSkyTrackSpec)

/-- 'laws.FnExactSkyWay', WHERE WHAT IT READS IS OF BULK AT MOST 1048576: true; the input reads as it did. -/
def fnExactSkyWayUptoRow : OpenClaim := { program := "ytgpmpajihobhhaadoor", sum := "c5ff2806f93efccfa2b03bda641fda3f23136ff9bb6f3709f8676fc6781efd80", func := "loop.example/lapwing/laws.FnExactSkyWay", spec := "fnExactSkyWay", unfollowed := true, recurses := true, named := ["loop.example/lapwing/impl.turnBy"], plainKeys := false, apart := false, laid := [("loop.example/lapwing/impl.turnBy", laid_loop_example_lapwing_impl_turnBy)], narrowed := true }
def FnExactSkyWayUptoSaid : Prop := fnExactSkyWayUptoRow.holds Tryd.pinned (OpenSpec.upto fnExactSkyWaySpec)

/-- 'laws.FnExactLapBase', WHERE WHAT IT READS IS OF BULK AT MOST 1048576: true; the input reads as it did. -/
def fnExactLapBaseUptoRow : OpenClaim := { program := "ytgpmpajihobhhaadoor", sum := "c5ff2806f93efccfa2b03bda641fda3f23136ff9bb6f3709f8676fc6781efd80", func := "loop.example/lapwing/laws.FnExactLapBase", spec := "fnExactLapBase", named := ["loop.example/lapwing/impl.turnBy"], plainKeys := false, apart := false, laid := [("loop.example/lapwing/impl.turnBy", laid_loop_example_lapwing_impl_turnBy)], narrowed := true }
def FnExactLapBaseUptoSaid : Prop := fnExactLapBaseUptoRow.holds Tryd.pinned (OpenSpec.upto fnExactLapBaseSpec)

end Rows
end Go.Proofs.YtgpmpajihobhhaaDoor
