/- The law of HandNew: true at every argument. -/
import Derived.Test.YtbghmmeeghdleaaChecked
import Derived.Test.YtbghmmeeghdleaaRows
import Derived.Test.YtbghmmeeghdleaaHn4
set_option linter.all false
namespace Go.Proofs.Ytbghmmeeghdleaa
open Go.Ve Go.ChangeShapes Go.WideShapes Go.RowKit
set_option linter.unusedVariables false
theorem own5 : ownKnob Try.prog.godebug = none := by kernel_rfl
theorem laidOut5 : laidOutB Try.prog = true := by kernel_rfl
theorem shapes5 : pshapes Try.prog 9 Try.f5.params.toList = some [.one (.sl sh_Zone)] := by kernel_rfl
theorem law5 (xs : List AV) (h : fitsPs [.one (.sl sh_Zone)] xs) : Contract Try.prog 5 xs [] (.bool true) [] := by
  simp only [fitsPs, fitsP, fits] at h
  obtain ⟨_, _, rfl, ⟨zs, rfl, hz, rz⟩, rfl⟩ := h
  obtain ⟨zs, rfl, pz⟩ := fit_rows2 fit_Zone rz
  rw [List.length_map] at hz
  exact c_FnExactHandNew 1 zs ⟨by unfold maxLen at hz; omega, pz⟩
set_option maxRecDepth 100000 in
theorem lifted5 (os : Os) (started : os.Started) (H : Type) (enc : TypeId × Value → H) :
    ReturnsInHanded {} Try.checked os 5 .any (Rows.fnExactHandNewSpec.pre6 enc Try.prog Try.f5 Rows.fnExactHandNewRow.domain false) (Rows.fnExactHandNewSpec.post enc Try.prog Try.f5 false true false false) := by
  refine returnsInHanded_of_change (C := Try.checked) own5 started (by kernel_rfl) Try.func5
    (ChangeSpec.witness6 (enc := enc) (C := Try.checked) false ⟨#[], #[.slice none 0 0], []⟩ 8 (by kernel_rfl) (by kernel_rfl) (by kernel_rfl) (by kernel_rfl)) ?_
  intro W base args ds gs before hval hW hcnd _
  exact law_calls laidOut5 shapes5 rfl (fun ds hd => by
    match ds, hd with
    | [d1], _ => rfl) (tb := 4) (by kernel_rfl) (by kernel_rfl) law5 W base args ds gs before hval hW false true

theorem over5 : Rows.fnExactHandNewRow.holds Try.pinned (OpenSpec.ofChange Rows.fnExactHandNewSpec) :=
  OpenClaim.holds_of_wide 5 Try.f5 rfl rfl rfl rfl rfl rfl rfl ⟨rfl, rfl, rfl, rfl, rfl⟩ rfl rfl rfl rfl rfl (by kernel_rfl) Try.func5 (by kernel_rfl)
    (of_decide_eq_true (by kernel_rfl)) (by unfold Func.isWrapper; first | (rw [if_pos (by decide +kernel)]; kernel_rfl) | (rw [if_neg (by decide +kernel)]; exact ⟨rfl, rfl⟩))
    (fun os started H enc _ => lifted5 os started H enc)
theorem proved : Rows.FnExactHandNewSaid := over5
#print axioms proved
end Go.Proofs.Ytbghmmeeghdleaa
