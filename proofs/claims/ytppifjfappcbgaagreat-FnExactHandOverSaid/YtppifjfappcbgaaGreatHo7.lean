/- At every argument the law of HandOver returns true. -/
import Derived.Test.YtppifjfappcbgaaGreatChecked
import Derived.Test.YtppifjfappcbgaaGreatRows
import Derived.Test.YtppifjfappcbgaaGreatHo6
set_option linter.all false
namespace Go.Proofs.YtppifjfappcbgaaGreat
open Go.Ve Go.ChangeShapes Go.WideShapes Go.RowKit
set_option linter.unusedVariables false
theorem own4 : ownKnob Tryz.prog.godebug = none := by kernel_rfl
theorem laidOut4 : laidOutB Tryz.prog = true := by kernel_rfl
theorem shapes4 : pshapes Tryz.prog 9 Tryz.f4.params.toList = some [.one (.sl sh_Zone), .one .str, .st sh_Book, .one .str, .one .str] := by kernel_rfl
theorem law4 (xs : List AV) (h : fitsPs [.one (.sl sh_Zone), .one .str, .st sh_Book, .one .str, .one .str] xs) : Contract Tryz.prog 4 xs [] (.bool true) [] := by
  simp only [fitsPs, fitsP, fits] at h
  obtain ⟨_, _, rfl, ⟨zs, rfl, hz, rz⟩, _, _, rfl, ⟨me, rfl, _⟩, _, _, rfl, ⟨bs, rfl, hb⟩, _, _, rfl, ⟨fl, rfl, _⟩, _, _, rfl, ⟨dst, rfl, _⟩, rfl⟩ := h
  obtain ⟨zs, rfl, pz⟩ := fit_rows2 fit_Zone rz
  rw [List.length_map] at hz
  obtain ⟨b, rfl, pb⟩ := fit_Book bs hb
  exact c_FnExactHandOver 1 zs me fl dst b ⟨by unfold maxLen at hz; omega, pz⟩ pb
set_option maxRecDepth 100000 in
theorem lifted4 (os : Os) (started : os.Started) (H : Type) (enc : TypeId × Value → H) :
    ReturnsInHanded {} Tryz.checked os 4 .any (Rows.fnExactHandOverSpec.pre6 enc Tryz.prog Tryz.f4 Rows.fnExactHandOverRow.domain false) (Rows.fnExactHandOverSpec.post enc Tryz.prog Tryz.f4 false true false false) := by
  refine returnsInHanded_of_change (C := Tryz.checked) own4 started (by kernel_rfl) Tryz.func4
    (ChangeSpec.witness6 (enc := enc) (C := Tryz.checked) false ⟨#[], #[.slice none 0 0, .string ⟨#[]⟩, .agg #[.slice none 0 0, .slice none 0 0, .slice none 0 0], .string ⟨#[]⟩, .string ⟨#[]⟩], []⟩ 8 (by kernel_rfl) (by kernel_rfl) (by kernel_rfl) (by kernel_rfl)) ?_
  intro W base args ds gs before hval hW hcnd _
  exact law_calls laidOut4 shapes4 rfl (fun ds gs hd hg => by
    match ds, hd, gs, hg with
    | [d1, d2, d3, d4, d5], _, [], _ => rfl) (tb := 4) (by kernel_rfl) (by kernel_rfl) law4 W base args ds gs before (fun g ls h => by cases h) hval hW false true

theorem over4 : Rows.fnExactHandOverRow.holds Tryz.pinned (OpenSpec.ofChange Rows.fnExactHandOverSpec) :=
  OpenClaim.holds_of_wide 4 Tryz.f4 rfl rfl rfl rfl rfl rfl rfl ⟨rfl, rfl, rfl, rfl, rfl⟩ rfl rfl rfl rfl rfl (by kernel_rfl) Tryz.func4 (by kernel_rfl)
    (of_decide_eq_true (by kernel_rfl)) (by unfold Func.isWrapper; first | (rw [if_pos (by decide +kernel)]; kernel_rfl) | (rw [if_neg (by decide +kernel)]; exact ⟨rfl, rfl⟩))
    (fun os started H enc _ => lifted4 os started H enc)
theorem proved : Rows.FnExactHandOverSaid := over4
#print axioms proved
end Go.Proofs.YtppifjfappcbgaaGreat
