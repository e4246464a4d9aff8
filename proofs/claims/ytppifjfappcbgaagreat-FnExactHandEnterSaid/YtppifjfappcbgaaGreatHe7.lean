/- The program's HandEnter returns what the reference's returns, for all arguments: the law FnExactHandEnter of the given row, at every argument that its guards let in. -/
import Derived.Test.YtppifjfappcbgaaGreatChecked
import Derived.Test.YtppifjfappcbgaaGreatRows
import Derived.Test.YtppifjfappcbgaaGreatHe6
set_option linter.all false
namespace Go.Proofs.YtppifjfappcbgaaGreat
open Go.Ve Go.ChangeShapes Go.WideShapes Go.RowKit
set_option linter.unusedVariables false
theorem QuI : ownKnob Tryz.prog.godebug = none := by kernel_rfl
theorem QqX : laidOutB Tryz.prog = true := by kernel_rfl
theorem QsI : Qae Tryz.prog 9 Tryz.f6.params.toList = some [.one (.sl QiE), .st QiF, .one .str] := by kernel_rfl
theorem QuJ (xs : List AV) (h : Qgg [.one (.sl QiE), .st QiF, .one .str] xs) : Contract Tryz.prog 6 xs [] (.bool true) [] := by
  simp only [Qgg, QpK, QiJ] at h
  obtain ⟨_, _, rfl, ⟨zs, rfl, hz, rz⟩, _, _, rfl, ⟨bs, rfl, hb⟩, _, _, rfl, ⟨fl, rfl, _⟩, rfl⟩ := h
  obtain ⟨zs, rfl, pz⟩ := Wc QqG rz
  rw [List.length_map] at hz
  obtain ⟨b, rfl, pb⟩ := QqJ bs hb
  exact Qde 1 zs fl b ⟨by unfold maxLen at hz; omega, pz⟩ pb
set_option maxRecDepth 100000 in
theorem QsJ (os : Os) (started : os.Started) (H : Type) (enc : TypeId × Value → H) :
    ReturnsInHanded {} Tryz.checked os 6 .any (Rows.fnExactHandEnterSpec.pre6 enc Tryz.prog Tryz.f6 Rows.fnExactHandEnterRow.domain false) (Rows.fnExactHandEnterSpec.post enc Tryz.prog Tryz.f6 false true false false) := by
  refine returnsInHanded_of_change (C := Tryz.checked) QuI started (by kernel_rfl) Tryz.func6
    (ChangeSpec.witness6 (enc := enc) (C := Tryz.checked) false ⟨#[], #[.slice none 0 0, .agg #[.slice none 0 0, .slice none 0 0, .slice none 0 0], .string ⟨#[]⟩], []⟩ 8 (by kernel_rfl) (by kernel_rfl) (by kernel_rfl) (by kernel_rfl)) ?_
  intro W base args ds gs before hval hW hcnd _
  exact QnT QqX QsI rfl (fun ds gs hd hg => by
    match ds, hd, gs, hg with
    | [d1, d2, d3], _, [], _ => rfl) (tb := 4) (by kernel_rfl) (by kernel_rfl) QuJ W base args ds gs before (fun g ls h => by cases h) hval hW false true

theorem Qub : Rows.fnExactHandEnterRow.holds Tryz.pinned (OpenSpec.ofChange Rows.fnExactHandEnterSpec) :=
  OpenClaim.holds_of_wide 6 Tryz.f6 rfl rfl rfl rfl rfl rfl rfl ⟨rfl, rfl, rfl, rfl, rfl⟩ rfl rfl rfl rfl rfl (by kernel_rfl) Tryz.func6 (by kernel_rfl)
    (of_decide_eq_true (by kernel_rfl)) (by unfold Func.isWrapper; first | (rw [if_pos (by decide +kernel)]; kernel_rfl) | (rw [if_neg (by decide +kernel)]; exact ⟨rfl, rfl⟩))
    (fun os started H enc _ => QsJ os started H enc)
theorem proved : Rows.FnExactHandEnterSaid := Qub
#print axioms proved
end Go.Proofs.YtppifjfappcbgaaGreat
