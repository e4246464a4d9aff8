/-
  NARROWER THAN 'FOR EVERY INPUT', by the rows' own cells (each row's printed sentence says how): FnExactSkyFar: laid · FnExactSkyWay: laid.
  DERIVED. THE GIVEN ROWS OF THIS SEAT. 2 by the template 'for every input the law returns true; each argument reads behind the call as it read before'; 0 by the template 'total and deterministic' (their statements: YtagikldfacbonaaDoorTotals.lean).
  GIVEN WITH THE SEED: the statements are not yours to turn. If you find one false, say at which input.
  Laid BY PROGRAM, IN A SANDBOX (cutbox-rows.mjs): the forced cells as the released guide's own fill.sh prints them over the translation ddf9a4f56749106a… (all of the seat's roots in one cut). By AI agents, Wed Nov 11 2026. No macro, syntax, notation, axiom, sorry.
-/
import Derived.Test.YtagikldfacbonaaDoorChecked
import GoSem.Claim
import GoSem.ClaimJoined
import GoSem.ClaimMapViews
import Derived.JoinedTies
import Derived.KernelRfl
namespace Go.Proofs.YtagikldfacbonaaDoor
/- THE CELL 'sum', in the pinned program and in every row, IS THE sha256 OF THE DUMP (.gsa) THAT YtagikldfacbonaaDoorProg.lean LOADS. Nothing in Lean hashes anything: it is a label: what it is worth is what the hold of that sum in a sandbox is worth. -/
noncomputable def Tryd.pinned : Pinned := { name := "ytagikldfacbonaadoor", sum := "ddf9a4f56749106a27e0fdc20ace964c1fc3bf30ebeb0d918c9f7c3e50f84462", checked := Tryd.checked }
namespace Rows
def none {H : Type} : Left H := { results := [], args := [] }

/- WHAT THE LISTED PACKAGE-LEVEL VARIABLES READ AS WHEN THE CALL BEGINS. Each datum BY PROGRAM (the guide's laid-datum.mjs) off the statement by which the dump's own 'gosem.cut.vars' lays the variable. In a bare row this is a premise. The card (YtagikldfacbonaaDoorCards.lean) ties it to the program's text. -/
def laid_loop_example_lapwing_impl_turnBy {H : Type} : DataW H := .agg [.agg [.lit (.int .i64 0), .lit (.int .i64 0)], .agg [.lit (.int .i64 0), .lit (.int .i64 1)], .agg [.lit (.int .i64 1), .lit (.int .i64 1)], .agg [.lit (.int .i64 1), .lit (.int .i64 0)], .agg [.lit (.int .i64 1), .lit (.int .i64 (-1))], .agg [.lit (.int .i64 0), .lit (.int .i64 (-1))], .agg [.lit (.int .i64 (-1)), .lit (.int .i64 (-1))], .agg [.lit (.int .i64 (-1)), .lit (.int .i64 0)], .agg [.lit (.int .i64 (-1)), .lit (.int .i64 1)]]

/-- 'laws.FnExactSkyFar': WHATEVER THE INPUT: true; the input reads as it did. -/
def fnExactSkyFarSpec : ChangeSpec := { name := "fnExactSkyFar", vars := ["loop.example/lapwing/impl.turnBy"], fn := fun _ => fun
  | [d1, d2, d3, g1] => { results := [.lit (.bool true)], args := [d1, d2, d3], vars := [g1] }
  | _ => none }
def fnExactSkyFarRow : OpenClaim := { program := "ytagikldfacbonaadoor", sum := "ddf9a4f56749106a27e0fdc20ace964c1fc3bf30ebeb0d918c9f7c3e50f84462", func := "loop.example/lapwing/laws.FnExactSkyFar", spec := "fnExactSkyFar", unfollowed := true, recurses := true, named := ["loop.example/lapwing/impl.turnBy"], plainKeys := false, apart := false, laid := [("loop.example/lapwing/impl.turnBy", laid_loop_example_lapwing_impl_turnBy)] }
def FnExactSkyFarSaid : Prop := fnExactSkyFarRow.holds Tryd.pinned (OpenSpec.ofChange fnExactSkyFarSpec)

/-- ITS FALSE NEIGHBOUR: 'it returns false'. Refute it at one input. -/
def fnExactSkyFarWrong : ChangeSpec := { name := "fnExactSkyFar", vars := ["loop.example/lapwing/impl.turnBy"], fn := fun _ => fun
  | [d1, d2, d3, g1] => { results := [.lit (.bool false)], args := [d1, d2, d3], vars := [g1] }
  | _ => none }
def FnExactSkyFarWrongFalsely : Prop := fnExactSkyFarRow.holds Tryd.pinned (OpenSpec.ofChange fnExactSkyFarWrong)

/-- 'laws.FnExactSkyWay': WHATEVER THE INPUT: true; the input reads as it did. -/
def fnExactSkyWaySpec : ChangeSpec := { name := "fnExactSkyWay", vars := ["loop.example/lapwing/impl.turnBy"], fn := fun _ => fun
  | [d1, d2, d3, g1] => { results := [.lit (.bool true)], args := [d1, d2, d3], vars := [g1] }
  | _ => none }
def fnExactSkyWayRow : OpenClaim := { program := "ytagikldfacbonaadoor", sum := "ddf9a4f56749106a27e0fdc20ace964c1fc3bf30ebeb0d918c9f7c3e50f84462", func := "loop.example/lapwing/laws.FnExactSkyWay", spec := "fnExactSkyWay", unfollowed := true, recurses := true, named := ["loop.example/lapwing/impl.turnBy"], plainKeys := false, apart := false, laid := [("loop.example/lapwing/impl.turnBy", laid_loop_example_lapwing_impl_turnBy)] }
def FnExactSkyWaySaid : Prop := fnExactSkyWayRow.holds Tryd.pinned (OpenSpec.ofChange fnExactSkyWaySpec)

/-- ITS FALSE NEIGHBOUR: 'it returns false'. Refute it at one input. -/
def fnExactSkyWayWrong : ChangeSpec := { name := "fnExactSkyWay", vars := ["loop.example/lapwing/impl.turnBy"], fn := fun _ => fun
  | [d1, d2, d3, g1] => { results := [.lit (.bool false)], args := [d1, d2, d3], vars := [g1] }
  | _ => none }
def FnExactSkyWayWrongFalsely : Prop := fnExactSkyWayRow.holds Tryd.pinned (OpenSpec.ofChange fnExactSkyWayWrong)

/- THE SECOND FORM. 'bulk': how many values and letters a reading holds, each counted each time it is reached (what is shared counts as often as it is met; a slice's spare places count too). A statement '..UptoSaid' is the law's where the arguments, and the package variables that the reading takes, are together of bulk at most 1048576: NARROWER than '..Said'. Prove '..Said' where nothing that the law and all that it calls make is longer than what came in: it says more and counts as full. Else prove '..UptoSaid'. A law counts once. -/
mutual
def uptoBulk {H : Type} : DataW H → Nat
  | .lit (.string bytes) => bytes.length + 1
  | .lit _ => 1
  | .nil => 1
  | .ptr d => uptoBulk d + 1
  | .slice elems spare => uptoBulkAll elems + uptoBulkAll spare + 1
  | .agg parts => uptoBulkAll parts + 1
  | .iface _ d => uptoBulk d + 1
  | .map entries => uptoBulkEntries entries + 1
  | .held _ => 1
def uptoBulkAll {H : Type} : List (DataW H) → Nat
  | [] => 0
  | d :: r => uptoBulk d + uptoBulkAll r
def uptoBulkEntries {H : Type} : List (Lit × DataW H) → Nat
  | [] => 0
  | x :: r => uptoBulkEntry x + uptoBulkEntries r
def uptoBulkEntry {H : Type} : Lit × DataW H → Nat
  | (.string bytes, d) => bytes.length + uptoBulk d + 1
  | (_, d) => uptoBulk d + 1
 end
def uptoSmall : (H : Type) → List (DataW H) → Bool := fun _ ds => decide (uptoBulkAll ds ≤ 1048576)
def OpenSpec.upto (s : _root_.Go.ChangeSpec) : _root_.Go.OpenSpec := { _root_.Go.OpenSpec.ofChange s with cond := some uptoSmall }

/-- 'laws.FnExactSkyFar', WHERE WHAT IT READS IS OF BULK AT MOST 1048576: true; the input reads as it did. -/
def fnExactSkyFarUptoRow : OpenClaim := { program := "ytagikldfacbonaadoor", sum := "ddf9a4f56749106a27e0fdc20ace964c1fc3bf30ebeb0d918c9f7c3e50f84462", func := "loop.example/lapwing/laws.FnExactSkyFar", spec := "fnExactSkyFar", unfollowed := true, recurses := true, named := ["loop.example/lapwing/impl.turnBy"], plainKeys := false, apart := false, laid := [("loop.example/lapwing/impl.turnBy", laid_loop_example_lapwing_impl_turnBy)], narrowed := true }
def FnExactSkyFarUptoSaid : Prop := fnExactSkyFarUptoRow.holds Tryd.pinned (OpenSpec.upto fnExactSkyFarSpec)

/-- 'laws.FnExactSkyWay', WHERE WHAT IT READS IS OF BULK AT MOST 1048576: true; the input reads as it did. -/
def fnExactSkyWayUptoRow : OpenClaim := { program := "ytagikldfacbonaadoor", sum := "ddf9a4f56749106a27e0fdc20ace964c1fc3bf30ebeb0d918c9f7c3e50f84462", func := "loop.example/lapwing/laws.FnExactSkyWay", spec := "fnExactSkyWay", unfollowed := true, recurses := true, named := ["loop.example/lapwing/impl.turnBy"], plainKeys := false, apart := false, laid := [("loop.example/lapwing/impl.turnBy", laid_loop_example_lapwing_impl_turnBy)], narrowed := true }
def FnExactSkyWayUptoSaid : Prop := fnExactSkyWayUptoRow.holds Tryd.pinned (OpenSpec.upto fnExactSkyWaySpec)

end Rows
end Go.Proofs.YtagikldfacbonaaDoor
