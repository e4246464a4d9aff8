/- At every zones, name and book the law of HandAgain returns true: what impl says again is what the reference says, its arguments read as before, and its answer owns its memory. -/
import Derived.Test.YtppifjfappcbgaaGreatChecked
import Derived.Test.YtppifjfappcbgaaGreatRows
import Derived.Test.YtppifjfappcbgaaGreatHa6
set_option linter.all false
namespace Go.Proofs.YtppifjfappcbgaaGreat
open Go.Ve Go.ChangeShapes Go.WideShapes Go.RowKit
set_option linter.unusedVariables false
theorem own3 : ownKnob Tryz.prog.godebug = none := by kernel_rfl
theorem laidOut3 : laidOutB Tryz.prog = true := by kernel_rfl
theorem shapes3 : pshapes Tryz.prog 9 Tryz.f3.params.toList = some [.one (.sl sh_Zone), .one .str, .st sh_Book] := by kernel_rfl
theorem law3 (xs : List AV) (h : fitsPs [.one (.sl sh_Zone), .one .str, .st sh_Book] xs) : Contract Tryz.prog 3 xs [] (.bool true) [] := by
  simp only [fitsPs, fitsP, fits] at h
  obtain ⟨_, _, rfl, ⟨zs, rfl, hz, rz⟩, _, _, rfl, ⟨me, rfl, _⟩, _, _, rfl, ⟨bs, rfl, hb⟩, rfl⟩ := h
  obtain ⟨zs, rfl, pz⟩ := fit_rows2 fit_Zone rz
  rw [List.length_map] at hz
  obtain ⟨b, rfl, pb⟩ := fit_Book bs hb
  exact c_FnExactHandAgain 1 zs me b ⟨by unfold maxLen at hz; omega, pz⟩ pb
set_option maxRecDepth 100000 in
theorem lifted3 (os : Os) (started : os.Started) (H : Type) (enc : TypeId × Value → H) :
    ReturnsInHanded {} Tryz.checked os 3 .any (Rows.fnExactHandAgainSpec.pre6 enc Tryz.prog Tryz.f3 Rows.fnExactHandAgainRow.domain false) (Rows.fnExactHandAgainSpec.post enc Tryz.prog Tryz.f3 false true false false) := by
  refine returnsInHanded_of_change (C := Tryz.checked) own3 started (by kernel_rfl) Tryz.func3
    (ChangeSpec.witness6 (enc := enc) (C := Tryz.checked) false ⟨#[], #[.slice none 0 0, .string ⟨#[]⟩, .agg #[.slice none 0 0, .slice none 0 0, .slice none 0 0]], []⟩ 8 (by kernel_rfl) (by kernel_rfl) (by kernel_rfl) (by kernel_rfl)) ?_
  intro W base args ds gs before hval hW hcnd _
  exact law_calls laidOut3 shapes3 rfl (fun ds gs hd hg => by
    match ds, hd, gs, hg with
    | [d1, d2, d3], _, [], _ => rfl) (tb := 4) (by kernel_rfl) (by kernel_rfl) law3 W base args ds gs before (fun g ls h => by cases h) hval hW false true

theorem over3 : Rows.fnExactHandAgainRow.holds Tryz.pinned (OpenSpec.ofChange Rows.fnExactHandAgainSpec) :=
  OpenClaim.holds_of_wide 3 Tryz.f3 rfl rfl rfl rfl rfl rfl rfl ⟨rfl, rfl, rfl, rfl, rfl⟩ rfl rfl rfl rfl rfl (by kernel_rfl) Tryz.func3 (by kernel_rfl)
    (of_decide_eq_true (by kernel_rfl)) (by unfold Func.isWrapper; first | (rw [if_pos (by decide +kernel)]; kernel_rfl) | (rw [if_neg (by decide +kernel)]; exact ⟨rfl, rfl⟩))
    (fun os started H enc _ => lifted3 os started H enc)
theorem proved : Rows.FnExactHandAgainSaid := over3
#print axioms proved
end Go.Proofs.YtppifjfappcbgaaGreat
