/- The law of HandBookOk: true at every argument. -/
import Derived.Test.YtbghmmeeghdleaaChecked
import Derived.Test.YtbghmmeeghdleaaRows
import Derived.Test.YtbghmmeeghdleaaHb5
set_option linter.all false
namespace Go.Proofs.Ytbghmmeeghdleaa
open Go.Ve Go.ChangeShapes Go.WideShapes Go.RowKit
set_option linter.unusedVariables false
theorem own4 : ownKnob Try.prog.godebug = none := by kernel_rfl
theorem laidOut4 : laidOutB Try.prog = true := by kernel_rfl
theorem shapes4 : pshapes Try.prog 9 Try.f4.params.toList = some [.one (.sl sh_Zone), .st sh_Book] := by kernel_rfl
theorem law4 (xs : List AV) (h : fitsPs [.one (.sl sh_Zone), .st sh_Book] xs) : Contract Try.prog 4 xs [] (.bool true) [] := by
  simp only [fitsPs, fitsP, fits] at h
  obtain ⟨_, _, rfl, ⟨zs, rfl, hz, rz⟩, _, _, rfl, ⟨bs, rfl, hb⟩, rfl⟩ := h
  obtain ⟨zs, rfl, pz⟩ := fit_rows2 fit_Zone rz
  rw [List.length_map] at hz
  obtain ⟨b, rfl, pb⟩ := fit_Book bs hb
  exact c_FnExactHandBookOk 1 zs b ⟨by unfold maxLen at hz; omega, pz⟩ pb
set_option maxRecDepth 100000 in
theorem lifted4 (os : Os) (started : os.Started) (H : Type) (enc : TypeId × Value → H) :
    ReturnsInHanded {} Try.checked os 4 .any (Rows.fnExactHandBookOkSpec.pre6 enc Try.prog Try.f4 Rows.fnExactHandBookOkRow.domain false) (Rows.fnExactHandBookOkSpec.post enc Try.prog Try.f4 false true false false) := by
  refine returnsInHanded_of_change (C := Try.checked) own4 started (by kernel_rfl) Try.func4
    (ChangeSpec.witness6 (enc := enc) (C := Try.checked) false ⟨#[], #[.slice none 0 0, .agg #[.slice none 0 0, .slice none 0 0, .slice none 0 0]], []⟩ 8 (by kernel_rfl) (by kernel_rfl) (by kernel_rfl) (by kernel_rfl)) ?_
  intro W base args ds gs before hval hW hcnd _
  exact law_calls laidOut4 shapes4 rfl (fun ds hd => by
    match ds, hd with
    | [d1, d2], _ => rfl) (tb := 4) (by kernel_rfl) (by kernel_rfl) law4 W base args ds gs before hval hW false true

theorem over4 : Rows.fnExactHandBookOkRow.holds Try.pinned (OpenSpec.ofChange Rows.fnExactHandBookOkSpec) :=
  OpenClaim.holds_of_wide 4 Try.f4 rfl rfl rfl rfl rfl rfl rfl ⟨rfl, rfl, rfl, rfl, rfl⟩ rfl rfl rfl rfl rfl (by kernel_rfl) Try.func4 (by kernel_rfl)
    (of_decide_eq_true (by kernel_rfl)) (by unfold Func.isWrapper; first | (rw [if_pos (by decide +kernel)]; kernel_rfl) | (rw [if_neg (by decide +kernel)]; exact ⟨rfl, rfl⟩))
    (fun os started H enc _ => lifted4 os started H enc)
theorem proved : Rows.FnExactHandBookOkSaid := over4
#print axioms proved
end Go.Proofs.Ytbghmmeeghdleaa
