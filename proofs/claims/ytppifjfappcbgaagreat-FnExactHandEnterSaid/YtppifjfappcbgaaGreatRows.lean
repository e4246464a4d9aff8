/-
  No cell of these rows narrows 'for every input' (looked for: loops, veiled, ifaces, maps, wideKeys, modest, calm, conditions, laid).
  DERIVED. THE GIVEN ROWS OF THIS SEAT. 4 by the template 'for every input the law returns true; each argument reads behind the call as it read before'; 0 by the template 'total and deterministic' (their statements: YtppifjfappcbgaaGreatTotals.lean).
  GIVEN WITH THE SEED: the statements are not yours to turn. If you find one false, say at which input.
  Laid BY PROGRAM, IN A SANDBOX (cutbox-rows.mjs): the forced cells as the released guide's own fill.sh prints them over the translation e7d9a13db899f2e8… (all of the seat's roots in one cut). By AI agents, Wed Nov 11 2026. No macro, syntax, notation, axiom, sorry.
-/
import Derived.Test.YtppifjfappcbgaaGreatChecked
import GoSem.Claim
import GoSem.ClaimJoined
import GoSem.ClaimMapViews
import Derived.JoinedTies
import Derived.KernelRfl
namespace Go.Proofs.YtppifjfappcbgaaGreat
/- THE CELL 'sum', in the pinned program and in every row, IS THE sha256 OF THE DUMP (.gsa) THAT YtppifjfappcbgaaGreatProg.lean LOADS. Nothing in Lean hashes anything: it is a label: what it is worth is what the hold of that sum in a sandbox is worth. -/
noncomputable def Tryz.pinned : Pinned := { name := "ytppifjfappcbgaagreat", sum := "e7d9a13db899f2e8fb3869cddfd95ec1262c024f81e52453ad8ddf92031f8487", checked := Tryz.checked }
namespace Rows
def none {H : Type} : Left H := { results := [], args := [] }

/-- 'laws.FnExactHandAgain': WHATEVER THE INPUT: true; the input reads as it did. -/
def fnExactHandAgainSpec : ChangeSpec := { name := "fnExactHandAgain", fn := fun _ => fun
  | [d1, d2, d3] => { results := [.lit (.bool true)], args := [d1, d2, d3] }
  | _ => none }
def fnExactHandAgainRow : OpenClaim := { program := "ytppifjfappcbgaagreat", sum := "e7d9a13db899f2e8fb3869cddfd95ec1262c024f81e52453ad8ddf92031f8487", func := "loop.example/lapwing/laws.FnExactHandAgain", spec := "fnExactHandAgain", unfollowed := true, recurses := true, apart := false }
def FnExactHandAgainSaid : Prop := fnExactHandAgainRow.holds Tryz.pinned (OpenSpec.ofChange fnExactHandAgainSpec)

/-- ITS FALSE NEIGHBOUR: 'it returns false'. Refute it at one input. -/
def fnExactHandAgainWrong : ChangeSpec := { name := "fnExactHandAgain", fn := fun _ => fun
  | [d1, d2, d3] => { results := [.lit (.bool false)], args := [d1, d2, d3] }
  | _ => none }
def FnExactHandAgainWrongFalsely : Prop := fnExactHandAgainRow.holds Tryz.pinned (OpenSpec.ofChange fnExactHandAgainWrong)

/-- 'laws.FnExactHandOver': WHATEVER THE INPUT: true; the input reads as it did. -/
def fnExactHandOverSpec : ChangeSpec := { name := "fnExactHandOver", fn := fun _ => fun
  | [d1, d2, d3, d4, d5] => { results := [.lit (.bool true)], args := [d1, d2, d3, d4, d5] }
  | _ => none }
def fnExactHandOverRow : OpenClaim := { program := "ytppifjfappcbgaagreat", sum := "e7d9a13db899f2e8fb3869cddfd95ec1262c024f81e52453ad8ddf92031f8487", func := "loop.example/lapwing/laws.FnExactHandOver", spec := "fnExactHandOver", unfollowed := true, recurses := true, apart := false }
def FnExactHandOverSaid : Prop := fnExactHandOverRow.holds Tryz.pinned (OpenSpec.ofChange fnExactHandOverSpec)

/-- ITS FALSE NEIGHBOUR: 'it returns false'. Refute it at one input. -/
def fnExactHandOverWrong : ChangeSpec := { name := "fnExactHandOver", fn := fun _ => fun
  | [d1, d2, d3, d4, d5] => { results := [.lit (.bool false)], args := [d1, d2, d3, d4, d5] }
  | _ => none }
def FnExactHandOverWrongFalsely : Prop := fnExactHandOverRow.holds Tryz.pinned (OpenSpec.ofChange fnExactHandOverWrong)

/-- 'laws.FnExactHandWish': WHATEVER THE INPUT: true; the input reads as it did. -/
def fnExactHandWishSpec : ChangeSpec := { name := "fnExactHandWish", fn := fun _ => fun
  | [d1, d2, d3, d4, d5] => { results := [.lit (.bool true)], args := [d1, d2, d3, d4, d5] }
  | _ => none }
def fnExactHandWishRow : OpenClaim := { program := "ytppifjfappcbgaagreat", sum := "e7d9a13db899f2e8fb3869cddfd95ec1262c024f81e52453ad8ddf92031f8487", func := "loop.example/lapwing/laws.FnExactHandWish", spec := "fnExactHandWish", unfollowed := true, recurses := true, apart := false }
def FnExactHandWishSaid : Prop := fnExactHandWishRow.holds Tryz.pinned (OpenSpec.ofChange fnExactHandWishSpec)

/-- ITS FALSE NEIGHBOUR: 'it returns false'. Refute it at one input. -/
def fnExactHandWishWrong : ChangeSpec := { name := "fnExactHandWish", fn := fun _ => fun
  | [d1, d2, d3, d4, d5] => { results := [.lit (.bool false)], args := [d1, d2, d3, d4, d5] }
  | _ => none }
def FnExactHandWishWrongFalsely : Prop := fnExactHandWishRow.holds Tryz.pinned (OpenSpec.ofChange fnExactHandWishWrong)

/-- 'laws.FnExactHandEnter': WHATEVER THE INPUT: true; the input reads as it did. -/
def fnExactHandEnterSpec : ChangeSpec := { name := "fnExactHandEnter", fn := fun _ => fun
  | [d1, d2, d3] => { results := [.lit (.bool true)], args := [d1, d2, d3] }
  | _ => none }
def fnExactHandEnterRow : OpenClaim := { program := "ytppifjfappcbgaagreat", sum := "e7d9a13db899f2e8fb3869cddfd95ec1262c024f81e52453ad8ddf92031f8487", func := "loop.example/lapwing/laws.FnExactHandEnter", spec := "fnExactHandEnter", inPlace := ["internal/bytealg.abigen_runtime_cmpstring"], unfollowed := true, recurses := true, apart := false }
def FnExactHandEnterSaid : Prop := fnExactHandEnterRow.holds Tryz.pinned (OpenSpec.ofChange fnExactHandEnterSpec)

/-- ITS FALSE NEIGHBOUR: 'it returns false'. Refute it at one input. -/
def fnExactHandEnterWrong : ChangeSpec := { name := "fnExactHandEnter", fn := fun _ => fun
  | [d1, d2, d3] => { results := [.lit (.bool false)], args := [d1, d2, d3] }
  | _ => none }
def FnExactHandEnterWrongFalsely : Prop := fnExactHandEnterRow.holds Tryz.pinned (OpenSpec.ofChange fnExactHandEnterWrong)

/- THE SECOND FORM. 'bulk': how many values and letters a reading holds, each counted each time it is reached (what is shared counts as often as it is met; a slice's spare places count too). A statement '..UptoSaid' is the law's where the arguments, and the package variables that the reading takes, are together of bulk at most 1048576: NARROWER than '..Said'. Prove '..Said' where nothing that the law and all that it calls make is longer than what came in: it says more and counts as full. Else prove '..UptoSaid'. A law counts once. -/
mutual
def uptoBulk {H : Type} : DataW H → Nat
  | .lit (.string bytes) => bytes.length + 1
  | .lit _ => 1
  | .nil => 1
  | .ptr d => uptoBulk d + 1
  | .slice elems spare => uptoBulkAll elems + uptoBulkAll spare + 1
  | .agg parts => uptoBulkAll parts + 1
  | .iface _ d => uptoBulk d + 1
  | .map entries => uptoBulkEntries entries + 1
  | .held _ => 1
def uptoBulkAll {H : Type} : List (DataW H) → Nat
  | [] => 0
  | d :: r => uptoBulk d + uptoBulkAll r
def uptoBulkEntries {H : Type} : List (Lit × DataW H) → Nat
  | [] => 0
  | x :: r => uptoBulkEntry x + uptoBulkEntries r
def uptoBulkEntry {H : Type} : Lit × DataW H → Nat
  | (.string bytes, d) => bytes.length + uptoBulk d + 1
  | (_, d) => uptoBulk d + 1
 end
def uptoSmall : (H : Type) → List (DataW H) → Bool := fun _ ds => decide (uptoBulkAll ds ≤ 1048576)
def OpenSpec.upto (s : _root_.Go.ChangeSpec) : _root_.Go.OpenSpec := { _root_.Go.OpenSpec.ofChange s with cond := some uptoSmall }

/-- 'laws.FnExactHandAgain', WHERE WHAT IT READS IS OF BULK AT MOST 1048576: true; the input reads as it did. -/
def fnExactHandAgainUptoRow : OpenClaim := { program := "ytppifjfappcbgaagreat", sum := "e7d9a13db899f2e8fb3869cddfd95ec1262c024f81e52453ad8ddf92031f8487", func := "loop.example/lapwing/laws.FnExactHandAgain", spec := "fnExactHandAgain", unfollowed := true, recurses := true, apart := false, narrowed := true }
def FnExactHandAgainUptoSaid : Prop := fnExactHandAgainUptoRow.holds Tryz.pinned (OpenSpec.upto fnExactHandAgainSpec)

/-- 'laws.FnExactHandOver', WHERE WHAT IT READS IS OF BULK AT MOST 1048576: true; the input reads as it did. -/
def fnExactHandOverUptoRow : OpenClaim := { program := "ytppifjfappcbgaagreat", sum := "e7d9a13db899f2e8fb3869cddfd95ec1262c024f81e52453ad8ddf92031f8487", func := "loop.example/lapwing/laws.FnExactHandOver", spec := "fnExactHandOver", unfollowed := true, recurses := true, apart := false, narrowed := true }
def FnExactHandOverUptoSaid : Prop := fnExactHandOverUptoRow.holds Tryz.pinned (OpenSpec.upto fnExactHandOverSpec)

/-- 'laws.FnExactHandWish', WHERE WHAT IT READS IS OF BULK AT MOST 1048576: true; the input reads as it did. -/
def fnExactHandWishUptoRow : OpenClaim := { program := "ytppifjfappcbgaagreat", sum := "e7d9a13db899f2e8fb3869cddfd95ec1262c024f81e52453ad8ddf92031f8487", func := "loop.example/lapwing/laws.FnExactHandWish", spec := "fnExactHandWish", unfollowed := true, recurses := true, apart := false, narrowed := true }
def FnExactHandWishUptoSaid : Prop := fnExactHandWishUptoRow.holds Tryz.pinned (OpenSpec.upto fnExactHandWishSpec)

/-- 'laws.FnExactHandEnter', WHERE WHAT IT READS IS OF BULK AT MOST 1048576: true; the input reads as it did. -/
def fnExactHandEnterUptoRow : OpenClaim := { program := "ytppifjfappcbgaagreat", sum := "e7d9a13db899f2e8fb3869cddfd95ec1262c024f81e52453ad8ddf92031f8487", func := "loop.example/lapwing/laws.FnExactHandEnter", spec := "fnExactHandEnter", inPlace := ["internal/bytealg.abigen_runtime_cmpstring"], unfollowed := true, recurses := true, apart := false, narrowed := true }
def FnExactHandEnterUptoSaid : Prop := fnExactHandEnterUptoRow.holds Tryz.pinned (OpenSpec.upto fnExactHandEnterSpec)

end Rows
end Go.Proofs.YtppifjfappcbgaaGreat
